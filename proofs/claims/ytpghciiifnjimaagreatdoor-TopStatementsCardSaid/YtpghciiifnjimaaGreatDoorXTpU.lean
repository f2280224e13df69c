/- Texts laid together: TpU StE ApW. -/
import Derived.Test.YtpghciiifnjimaaGreatDoorXTpT
import Derived.Test.YtpghciiifnjimaaGreatDoorXStA
import Derived.Test.YtpghciiifnjimaaGreatDoorXK0
namespace Go.Proofs.YtpghciiifnjimaaGreatDoor
set_option maxRecDepth 4000
set_option linter.unusedSimpArgs false
set_option linter.unusedVariables false
open Go.RowKit
/-- A loop that counts to n, what it has seen. -/
def KP (n : Nat) (p : Nat → Prop) (W : World) (v : Value) (wr : World) : Prop := ∃ k : Nat, k ≤ n ∧ v = .int .i64 k ∧ (∀ i, i < k → p i) ∧ Below W.heap.size W wr
theorem kp_next {p : Nat → Prop} {k : Nat} (h : ∀ i, i < k → p i) (hk : p k) : ∀ i, i < k + 1 → p i := fun i hi => by
 rcases Nat.lt_or_ge i k with h1 | h1
 ·exact h i h1
 ·obtain rfl : i = k := by omega
  exact hk
/-- Sizes of an entry that is right. -/
def EnS (ck : Nat → Tr) : Prop := (strOf (lfv (ck 6))).size ≤ 48 ∧ (strOf (lfv (ck 7))).size ≤ 64 ∧ (ck 8).n ≤ 12 ∧ ∀ k, k < (ck 8).n → (strOf (lfv ((ck 8).c k 2))).size = 3
set_option maxRecDepth 8000 in
set_option maxHeartbeats 8000000 in
theorem wcheck19_any {ck : Nat → Tr} (kn : KnOK 11 ck) (w : World) (X : Array Value) (hX : ElT (Old w) w 11 ck X) : Calls Tryz.prog 198 #[.agg X] w (OkE (EnS ck) w) := by
 have hXs : X.size = 10 := hX.size
 obtain ⟨z1, _, e1, _⟩ := rd_int (hX.rd 1 (by decide)) (kn 1 (by decide))
 obtain ⟨z2, _, e2, _⟩ := rd_int (hX.rd 2 (by decide)) (kn 2 (by decide))
 obtain ⟨z3, _, e3, _⟩ := rd_int (hX.rd 3 (by decide)) (kn 3 (by decide))
 obtain ⟨z4, _, e4, _⟩ := rd_int (hX.rd 4 (by decide)) (kn 4 (by decide))
 obtain ⟨z5, _, e5, _⟩ := rd_int (hX.rd 5 (by decide)) (kn 5 (by decide))
 obtain ⟨s6, q6, e6, _⟩ := rd_str (hX.rd 6 (by decide)) (kn 6 (by decide))
 obtain ⟨s7, q7, e7, _⟩ := rd_str (hX.rd 7 (by decide)) (kn 7 (by decide))
 obtain ⟨n, c, q8, hk, A, cap, C, e8, _, hA⟩ := rd_row (e := 10) (hX.rd 8 (by decide)) (kn 8 (by decide))
 have g1 : X[1]? = some (.int .i64 z1) := at_eq hXs (by decide) e1
 have g2 : X[2]? = some (.int .i64 z2) := at_eq hXs (by decide) e2
 have g3 : X[3]? = some (.int .i64 z3) := at_eq hXs (by decide) e3
 have g4 : X[4]? = some (.int .i64 z4) := at_eq hXs (by decide) e4
 have g5 : X[5]? = some (.int .i64 z5) := at_eq hXs (by decide) e5
 have g6 : X[6]? = some (.string s6) := at_eq hXs (by decide) e6
 have g7 : X[7]? = some (.string s7) := at_eq hXs (by decide) e7
 have g8 : X[8]? = some (.slice A n cap) := at_eq hXs (by decide) e8
 have HF := hide (show s6.size ≤ 48 → s7.size ≤ 64 → n ≤ 12 → (∀ k, k < n → (strOf (lfv (c k 2))).size = 3) → EnS ck from fun a b d e => ⟨by rw [q6]; exact a, by rw [q7]; exact b, by rw [q8]; exact d, by rw [q8]; exact e⟩)
 have HK := hide hk
 have HA := hide hA
 clear e1 e2 e3 e4 e5 e6 e7 e8 q6 q7 q8 hk hA hX hXs kn
 go_enter Tryz.func198, Tryz.ntmps198
 go_wp2_with fail
 refine (wkeyS_any s6 _).mono ?_
 rintro r w1 ⟨b1, rfl, hp, hb⟩
 have HP6 := hide hp
 clear hp
 have q1B : Below w.heap.size w w1 := qB hb
 have q1z := hb.size
 try simp at q1z
 have q1t : w.heap.size ≤ w1.heap.size := (by omega)
 obtain ⟨q1s0, q1n0_0, q1n0_1, q1n0_2⟩ := kB w1.heap.size w.heap.size
 have q1c0_1 := cel hb w.heap.size 1
 simp [go_sem, *] at q1c0_1
 have q1c0_2 := cel hb w.heap.size 2
 simp [go_sem, *] at q1c0_2
 have q1c0_3 := cel hb w.heap.size 3
 simp [go_sem, *] at q1c0_3
 have q1c0_4 := cel hb w.heap.size 4
 simp [go_sem, *] at q1c0_4
 have q1c0_5 := cel hb w.heap.size 5
 simp [go_sem, *] at q1c0_5
 have q1c0_7 := cel hb w.heap.size 7
 simp [go_sem, *] at q1c0_7
 have q1c0_8 := cel hb w.heap.size 8
 simp [go_sem, *] at q1c0_8
 have q1f0 := fun o => fro hb w.heap.size o
 simp [go_sem, *] at q1f0
 have q1o := belO q1B
 clear hb
 have Q1 := hide q1B
 cases b1 with
 | false =>
  go_wp2_with fail
  go_ret
  exact ⟨_, rfl, fun h => absurd h (by decide), Q1.out⟩
 | true =>
  go_wp2_with fail
  refine (wprintS_any s7 64 32 (by decide) _).mono ?_
  rintro r w2 ⟨b2, rfl, hp, hb⟩
  have HP7 := hide hp
  clear hp
  have q2B : Below w1.heap.size w1 w2 := qB hb
  have q2z := hb.size
  try simp at q2z
  have q2t : w1.heap.size ≤ w2.heap.size := (by omega)
  obtain ⟨q2s0, q2n0_0, q2n0_1, q2n0_2⟩ := kB w2.heap.size w.heap.size
  have q2c0_1 := cel hb w.heap.size 1
  simp [go_sem, *] at q2c0_1
  have q2c0_2 := cel hb w.heap.size 2
  simp [go_sem, *] at q2c0_2
  have q2c0_3 := cel hb w.heap.size 3
  simp [go_sem, *] at q2c0_3
  have q2c0_4 := cel hb w.heap.size 4
  simp [go_sem, *] at q2c0_4
  have q2c0_5 := cel hb w.heap.size 5
  simp [go_sem, *] at q2c0_5
  have q2c0_8 := cel hb w.heap.size 8
  simp [go_sem, *] at q2c0_8
  have q2f0 := fun o => fro hb w.heap.size o
  simp [go_sem, *] at q2f0
  have q2o := belO q2B
  clear hb q1o q1f0 q1c0_8 q1c0_7 q1c0_5 q1c0_4 q1c0_3 q1c0_2 q1c0_1 q1s0 q1z q1B
  have Q2 := hide (Q1.out.trans (q2B.mono Q1.out.size))
  cases b2 with
  | false =>
   go_wp2_with fail
   go_ret
   exact ⟨_, rfl, fun h => absurd h (by decide), Q2.out⟩
  | true =>
   go_wp2_with (go_at_call 90; refine (rvalid_any _ _).mono ?_; rintro r wv ⟨rfl, rfl⟩)
   all_goals try (go_ret; exact ⟨_, rfl, fun h => absurd h (by decide), Q2.out⟩)
   all_goals
    have hn12 : n ≤ 12 := by omega
    go_loopw [3] (fun v wr => KP n (fun k => (strOf (lfv (c k 2))).size = 3) w2 v wr) (fun v _ => n - (intOf v).toNat)
    case atStart => exact ⟨0, by omega, rfl, fun i hi => by omega, Below.refl _ _⟩
    case round =>
     obtain ⟨k, hkn, rfl, hp, hb⟩ := hrel
     have H0 := hide hb
     have HP := hide hp
     clear hp
     have q3B : Below w2.heap.size w2 wr := qB hb
     have q3z := hb.size
     try simp at q3z
     have q3t : w2.heap.size ≤ wr.heap.size := (by omega)
     obtain ⟨q3s0, q3n0_0, q3n0_1, q3n0_2⟩ := kB wr.heap.size w.heap.size
     have q3c0_8 := cel hb w.heap.size 8
     simp [go_sem, *] at q3c0_8
     have q3f0 := fun o => fro hb w.heap.size o
     simp [go_sem, *] at q3f0
     have q3o := belO q3B
     clear hb
     have QL := hide (Q2.out.trans (H0.out.mono Q2.out.size))
     by_cases hlt : k < n
     ·have hm : (k : Int) < n := by omega
      have hk0 : (0 : Int) ≤ k := by omega
      have HLT := hide hlt
      obtain ⟨b, off, rfl, hbl, hc⟩ := (HA.out.below QL.out).all (by decide) (by omega)
      obtain ⟨y0, _, f0, _⟩ := rd_int (HA.out.rd k 0 hlt (by decide)) (HK.out.wt k 0 hlt (by decide))
      obtain ⟨y1, _, f1, _⟩ := rd_int (HA.out.rd k 1 hlt (by decide)) (HK.out.wt k 1 hlt (by decide))
      obtain ⟨t2, p2, f2, _⟩ := rd_str (HA.out.rd k 2 hlt (by decide)) (HK.out.wt k 2 hlt (by decide))
      have c0 : wr.cell? ⟨b, off + k * 3, none⟩ = some (.int .i64 y0) := by have hcc := hc k 0 hlt (by decide); rw [f0] at hcc; exact hcc
      have c1 : wr.cell? ⟨b, off + k * 3 + 1, none⟩ = some (.int .i64 y1) := by have hcc := hc k 1 hlt (by decide); rw [f1] at hcc; exact hcc
      have c2 : wr.cell? ⟨b, off + k * 3 + 2, none⟩ = some (.string t2) := by have hcc := hc k 2 hlt (by decide); rw [f2] at hcc; exact hcc
      have HT2 := hide (show t2.size = 3 → (strOf (lfv (c k 2))).size = 3 from fun h => by rw [p2]; exact h)
      clear f0 f1 f2 p2 hc hlt hkn
      go_wp2_with fail
      refine (wleg19_any y0 y1 t2 _).mono ?_
      rintro r w4 ⟨E, rfl, hE, hb⟩
      have HE := hide hE
      clear hE
      by_cases hz : E = 0
      ·have dE : (E != 0) = false := by simp [hz]
       have HT3 := hide (HT2.out (HE.out hz))
       clear hz
       go_wp2_with fail
       go_roundw
       case rel => exact ⟨k + 1, HLT.out, by go_num, kp_next HP.out HT3.out, H0.out.trans (hb.mono H0.out.size)⟩
       case measure => have := HLT.out; simp [intOf]; omega
      ·have dE : (E != 0) = true := by simpa using hz
       have HZ := hide hz
       clear hz
       go_wp2_with fail
       go_ret
       exact ⟨_, rfl, fun h => absurd h HZ.out, QL.out.trans (hb.mono QL.out.size)⟩
     ·obtain rfl : k = n := by omega
      clear hlt hkn
      go_wp2_with fail
      refine (wsums_any A k cap c C HK.out (by omega) _ (HA.out.below QL.out)).mono ?_
      rintro r w5 ⟨B, m, p, rfl, hm, hM, hb⟩
      have HM := hide hM
      have Q5 := hide (QL.out.trans (hb.mono QL.out.size))
      have hm20 : m ≤ 12 := by omega
      clear hM hb hm
      go_wp2_with fail
      go_loopw [6] (fun v wr => KB m w5 v wr) (fun v _ => m - (intOf v).toNat)
      case atStart => exact ⟨0, by omega, rfl, Below.refl _ _⟩
      case round =>
       obtain ⟨j, hj, rfl, hb⟩ := hrel
       have HJ := hide hb
       have QM := hide (Q5.out.trans (hb.mono Q5.out.size))
       by_cases hjt : j < m
       ·have hjm : (j : Int) < m := by omega
        have hj0 : (0 : Int) ≤ j := by omega
        have HJT := hide hjt
        obtain ⟨b5, o5, s5, z5x, rfl, hb5, f0, f1⟩ := (HM.out.below hb).at hjt
        clear hjt hj hb
        go_wp2_with fail
        all_goals first
         | (go_ret; exact ⟨_, rfl, fun h => absurd h (by decide), QM.out⟩)
         | (go_roundw; (case rel => exact ⟨j + 1, HJT.out, by go_num, HJ.out⟩); (case measure => have := HJT.out; simp [intOf]; omega))
       ·obtain rfl : j = m := by omega
        clear hjt hj hb
        go_wp2_with fail
        go_ret
        exact ⟨_, rfl, fun _ => HF.out (HP6.out (by first | rfl | trivial)) (by have := HP7.out (by first | rfl | trivial); omega) hn12 HP.out, QM.out⟩
end Go.Proofs.YtpghciiifnjimaaGreatDoor
namespace Go.Proofs.YtpghciiifnjimaaGreatDoor
set_option maxRecDepth 4000
set_option linter.unusedSimpArgs false
set_option linter.unusedVariables false
open Go.RowKit
theorem ent_info : (Tryz.prog.info? 53).map (fun i => (i.zero, i.size, i.bytes)) = some (some (.agg #[.int .i64 0, .int .i64 0, .int .i64 0, .int .i64 0, .int .i64 0, .int .i64 0, .string ⟨#[]⟩, .string ⟨#[]⟩, .slice none 0 0, .int .u64 0]), 10, 112) := by kernel_rfl
theorem pos_info : (Tryz.prog.info? 68).map (fun i => (i.zero, i.size, i.bytes)) = some (some (.agg #[.int .i64 0, .int .i64 0, .int .i64 0, .string ⟨#[]⟩]), 4, 40) := by kernel_rfl
theorem info3 {p : Option TypeInfo} {z : Value} {s b : Nat} (h : p.map (fun i => (i.zero, i.size, i.bytes)) = some (some z, s, b)) : ∃ i, p = some i ∧ i.zero = some z ∧ i.size = s ∧ i.bytes = b := by
 cases p with
 | none => cases h
 | some i => simp at h; exact ⟨i, rfl, h.1, h.2.1, h.2.2⟩
end Go.Proofs.YtpghciiifnjimaaGreatDoor
namespace Go.Proofs.YtpghciiifnjimaaGreatDoor
set_option maxRecDepth 4000
set_option linter.unusedSimpArgs false
set_option linter.unusedVariables false
open Go.RowKit
theorem wp_append_own2 {P : Program} {w : World} {o : Oper} {a : Act} {K : Act → World → Prop} {Q : Exit → Act → World → Prop} (s x : Operand) (t : TypeId)
  (ho : o.op = .call { callee := .builtin .append, args := #[s, x], argTypes := #[t, t] })
  (base : Nat) (e : TypeId) (i : TypeInfo) (z : Value) (size bytes : Nat) (ht : P.underlying t = some (.slice e)) (hi : P.info? e = some i) (hz : i.zero = some z)
  (hsize : i.size = size) (hby : i.bytes = bytes) (hzs : z.cells.size = size) (hsz : 0 < size)
  (v : Value) (n : Nat) (xs : List Value) (hs : a.eval s = v) (hown : w.ownsRow base e size v n xs)
  (ad : Addr) (m c : Nat) (news : List Value) (hx : a.eval x = .slice (some ad) m c) (hl : news.length = m * size) (hnews : ∀ j u, news[j]? = some u → w.cell? (ad.add j) = some u) (h1 : ∀ u ∈ news, u.oneCell' = true)
  (h63 : n + m ≤ maxLen) (hbytes : (n + m) * bytes ≤ 140737488355328) (hbase : base ≤ w.heap.size)
  (h : ∀ A' c' w', w'.ownsRow base e size (.slice A' (n + m) c') (n + m) (xs ++ news) → w.grownBy w' v.ownBlock → K (a.put o.dst (.slice A' (n + m) c')) w') : o.wp P a w K Q := by
 obtain ⟨A', c', w', hr, h2, h3, _⟩ := append_own2 (P := P) w base t o.type e i z size bytes ht hi hz hsize hby hzs hsz v n xs hown ad m c news hl hnews h1 h63 hbytes hbase
 unfold Oper.wp execOp
 simp only [ho, resolve, invoke, builtin, Sem.run_bind, Sem.run_pure, Result.andThen_ok, List.map_toArray, List.map_cons, List.map_nil, hs, hx, hr]
 exact h A' c' w' h2 h3
/-- One entry of a journal is a journal. -/
theorem Jrn.one {w : World} {b off n k : Nat} {E : Nat → LEnt} (h : Jrn w (some ⟨b, off, none⟩) n E) (hk : k < n) : Jrn w (some ⟨b, off + k * 10, none⟩) 1 (fun _ => E k) := by
 refine ⟨⟨fun _ => ?_, fun j _ => h.row.2 k hk⟩, fun j _ => h.legs k hk⟩
 obtain ⟨b', off', e, hlt, hc⟩ := h.row.1 (by omega)
 injection e with e
 injection e with e1 e2
 subst e1 e2
 refine ⟨b, off + k * 10, rfl, hlt, fun i j hi hj => ?_⟩
 obtain rfl : i = 0 := by omega
 rw [Nat.zero_mul, Nat.zero_add, Nat.add_assoc]
 exact hc k j hk hj
/-- A grown row keeps what SB says, where the row's own block is among the free ones. -/
theorem SB.grown {N : Nat} {X : List Nat} {W w w' : World} {row : Option Nat} (h : SB N X W w) (hg : w.grownBy w' row) (hN : N ≤ w.heap.size) (hr : ∀ k, row = some k → k ∈ X) : SB N X W w' := fun b o hb hx =>
 (World.cell?_of_block (a := ⟨b, o, none⟩) (hg.block b (Nat.lt_of_lt_of_le hb hN) fun e => hx (hr b e.symm))).trans (h b o hb hx)
end Go.Proofs.YtpghciiifnjimaaGreatDoor
