/- Texts laid together: ExT ExZ. -/
import Derived.Test.YtdjlaiilngechaaGreatDoorXExG
import Derived.Test.YtdjlaiilngechaaGreatDoorXExY
import Derived.Test.YtdjlaiilngechaaGreatDoorXK0
namespace Go.Proofs.YtdjlaiilngechaaGreatDoor
set_option maxRecDepth 4000
set_option linter.unusedSimpArgs false
set_option linter.unusedVariables false
open Go.RowKit
def linOf (x : Nat → LnR) (k : Nat) : Lin := (x k).1
def SumI (f : Nat → Lin) (n : Nat) (w : World) (v : Value) (wr : World) : Prop :=
 ∃ (k : Nat) (s : Int), k ≤ n ∧ v = .int .i64 k ∧ smF f k = some s ∧ (wr.cell? ⟨w.heap.size + 1, 0, none⟩ = some (.int .i64 (hiW s)) ∧ wr.cell? ⟨w.heap.size + 1, 1, none⟩ = some (.int .u64 (loW s)) ∧ ∀ o, wr.frozen? ⟨w.heap.size + 1, o, none⟩ = false) ∧
  (wr.cell? ⟨w.heap.size, 0, none⟩ = some (.int .i64 0) ∧ wr.cell? ⟨w.heap.size, 1, none⟩ = some (.int .u64 0) ∧ ∀ o, wr.frozen? ⟨w.heap.size, o, none⟩ = false) ∧ Below w.heap.size w wr ∧ w.heap.size + 1 < wr.heap.size
theorem fitE_not0 {z : Int} (h : ¬ fitE z = 0) : fitE z = 6 := by
 unfold fitE at *
 split at h
 ·exact absurd rfl h
 ·rename_i h2; rw [if_neg h2]
set_option maxHeartbeats 4000000 in
theorem esum_any (A : Option Addr) (n c : Nat) (x : Nat → LnR) (hn : n ≤ 1000000) (hG : ∀ k, k < n → WIn (x k).1.gr) (w : World) (hr : RowLn w A n x) :
  Calls Tryz.prog 15 #[.slice A n c] w fun e w' => e = .returned (.tuple #[.agg #[.int .i64 (hiW (smFV (linOf x) n)), .int .u64 (loW (smFV (linOf x) n))], .int .i64 (smFE (linOf x) n)]) ∧ Below w.heap.size w w' := by
 have HR := hide hr
 have HG := hide hG
 clear hr hG
 go_enter Tryz.func15, Tryz.ntmps15
 go_wp2_with fail
 go_loopw [11] (fun v wr => SumI (linOf x) n w v wr) (fun v _ => n - (intOf v).toNat)
 case atStart => exact ⟨0, 0, by omega, rfl, rfl, ⟨by simp [go_sem, hi_zero], by simp [go_sem, lo_zero], by simp [go_sem]⟩, ⟨by simp [go_sem], by simp [go_sem], by simp [go_sem]⟩, by (repeat (first | (with_reducible first | exact Below.refl _ _ | assumption | refine Below.drew ?_) | ((with_reducible first | refine Below.alloc ?_ ?_ _ | refine Below.setCell ?_ ?_ _); rotate_left; (first | omega | (simp <;> omega))))), by simp⟩
 case round =>
  obtain ⟨k, s, hk, rfl, hs, ⟨s0, s1, sf⟩, ⟨r0, r1, rf⟩, hB, hz⟩ := hrel
  have HS := hide hs
  have HW := hide (smF_win hs)
  have z1 : w.heap.size < wr.heap.size := by omega
  have z2 : w.heap.size ≤ wr.heap.size := by omega
  have n1 : ¬ wr.heap.size = w.heap.size := by omega
  have n2 : ¬ wr.heap.size = w.heap.size + 1 := by omega
  clear hs
  by_cases hlt : k < n
  ·have hm : (k : Int) < n := by omega
   have hk0 : (0 : Int) ≤ k := by omega
   have HK := hide hlt
   obtain ⟨b, off, rfl, hbl, c0, c1, c2, c3, c4, c5, c6⟩ := (HR.out.below hB).at hlt
   clear hlt hk
   go_wp2_with fail
   refine (wadd_any s (x k).1.gr HW.out (HG.out k HK.out) _).mono ?_
   rintro e w1 ⟨rfl, hb⟩
   by_cases he : fitE (s + (x k).1.gr) = 0
   ·have HF := hide (fitR_of (fitE_iff.1 he))
    have HT := hide (smF_step (f := linOf x) HS.out he)
    rw [he, HF.out]
    have q1B : Below wr.heap.size wr w1 := qB hb
    have q1z := hb.size
    try simp at q1z
    have q1t : wr.heap.size ≤ w1.heap.size := (by omega)
    obtain ⟨q1s0, q1n0_0, q1n0_1, q1n0_2⟩ := kB w1.heap.size w.heap.size
    obtain ⟨q1c0_0, q1c0_1, q1f0⟩ := kC2 hb w.heap.size
    simp [go_sem, *] at q1c0_0 q1c0_1 q1f0
    obtain ⟨q1s1, q1n1_0, q1n1_1, q1n1_2⟩ := kB w1.heap.size (w.heap.size + 1)
    obtain ⟨q1c1_0, q1c1_1, q1f1⟩ := kC2 hb (w.heap.size + 1)
    simp [go_sem, *] at q1c1_0 q1c1_1 q1f1
    have q1o := belO q1B
    clear hb
    clear he
    go_wp2_with fail
    go_roundw
    case rel => exact ⟨k + 1, s + (x k).1.gr, HK.out, by go_num, HT.out, ⟨by simp [go_sem, *], by simp [go_sem, *], by simp [go_sem, *]⟩, ⟨by simp [go_sem, *], by simp [go_sem, *], by simp [go_sem, *]⟩, by refine hB.trans (Below.trans (q1B.mono (by have := hB.size; omega)) ?_); (repeat (first | (with_reducible first | exact Below.refl _ _ | assumption | refine Below.drew ?_) | ((with_reducible first | refine Below.alloc ?_ ?_ _ | refine Below.setCell ?_ ?_ _); rotate_left; (first | omega | (simp <;> omega))))), by simp; omega⟩
    case measure => have := HK.out; simp [intOf]; omega
   ·have HF := hide (smF_fail (f := linOf x) HS.out HK.out he)
    rw [fitE_not0 he]
    have q1B : Below wr.heap.size wr w1 := qB hb
    have q1z := hb.size
    try simp at q1z
    have q1t : wr.heap.size ≤ w1.heap.size := (by omega)
    obtain ⟨q1s0, q1n0_0, q1n0_1, q1n0_2⟩ := kB w1.heap.size w.heap.size
    obtain ⟨q1c0_0, q1c0_1, q1f0⟩ := kC2 hb w.heap.size
    simp [go_sem, *] at q1c0_0 q1c0_1 q1f0
    obtain ⟨q1s1, q1n1_0, q1n1_1, q1n1_2⟩ := kB w1.heap.size (w.heap.size + 1)
    obtain ⟨q1c1_0, q1c1_1, q1f1⟩ := kC2 hb (w.heap.size + 1)
    simp [go_sem, *] at q1c1_0 q1c1_1 q1f1
    have q1o := belO q1B
    clear hb
    clear he
    go_wp2_with fail
    refine bodyPost_ret (by simp [results, Tryz.results15, go_sem, *] <;> rfl) rfl ⟨?_, ?_⟩
    ·unfold smFV smFE; rw [HF.out]; simp only [hi_zero, lo_zero]
    ·refine hB.trans (Below.trans (q1B.mono (by have := hB.size; omega)) ?_); (repeat (first | (with_reducible first | exact Below.refl _ _ | assumption | refine Below.drew ?_) | ((with_reducible first | refine Below.alloc ?_ ?_ _ | refine Below.setCell ?_ ?_ _); rotate_left; (first | omega | (simp <;> omega)))))
  ·obtain rfl : k = n := by omega
   clear hlt hk
   go_wp2_with fail
   refine bodyPost_ret (by simp [results, Tryz.results15, go_sem, *] <;> rfl) rfl ⟨?_, ?_⟩
   ·unfold smFV smFE; rw [HS.out]
   ·refine hB.trans ?_
    (repeat (first | (with_reducible first | exact Below.refl _ _ | assumption | refine Below.drew ?_) | ((with_reducible first | refine Below.alloc ?_ ?_ _ | refine Below.setCell ?_ ?_ _); rotate_left; (first | omega | (simp <;> omega)))))
end Go.Proofs.YtdjlaiilngechaaGreatDoor
namespace Go.Proofs.YtdjlaiilngechaaGreatDoor
set_option maxRecDepth 4000
set_option linter.unusedSimpArgs false
set_option linter.unusedVariables false
open Go.RowKit
/-- The first error of n lines. -/
def txE (x : Nat → Lin) (d : Int) : Nat → Int
 | 0 => 0
 | k + 1 => if txE x d k = 0 then tE (x k) d else txE x d k
noncomputable def txB (x : Nat → Lin) (d : Int) (k : Nat) : ByteArray := ⟨(tL (x k) d).toArray⟩
noncomputable def txsL (x : Nat → Lin) (d : Int) : Nat → List Value
 | 0 => []
 | k + 1 => txsL x d k ++ [.string (txB x d k)]
theorem txsL_len (x : Nat → Lin) (d : Int) : ∀ n, (txsL x d n).length = n
 | 0 => rfl
 | n + 1 => by unfold txsL; rw [List.length_append, txsL_len x d n]; rfl
theorem txsL_at (x : Nat → Lin) (d : Int) : ∀ {n k : Nat}, k < n → (txsL x d n)[k]? = some (.string (txB x d k))
 | 0, k, h => by omega
 | n + 1, k, h => by
  unfold txsL
  rcases Nat.lt_or_ge k n with h1 | h1
  ·rw [List.getElem?_append_left (by rw [txsL_len]; exact h1)]
   exact txsL_at x d h1
  ·obtain rfl : k = n := by omega
   rw [List.getElem?_append_right (by rw [txsL_len]; exact Nat.le_refl _), txsL_len, Nat.sub_self]
   rfl
theorem txE_mono {x : Nat → Lin} {d : Int} {k : Nat} (h : txE x d k ≠ 0) : ∀ {n : Nat}, k ≤ n → txE x d n = txE x d k := by
 intro n hn
 induction hn with
 | refl => rfl
 | step _ ih => show (if _ then _ else _) = _; rw [if_neg (by rw [ih]; exact h), ih]
theorem txE_ok {x : Nat → Lin} {d : Int} {k : Nat} (h : txE x d k = 0) : txE x d (k + 1) = tE (x k) d := if_pos h
/-- A row of texts. -/
def RowTx (w : World) (A : Option Addr) (n : Nat) (b : Nat → ByteArray) : Prop := 0 < n → ∃ g off, A = some ⟨g, off, none⟩ ∧ g < w.heap.size ∧ ∀ k, k < n → w.cell? ⟨g, off + k, none⟩ = some (.string (b k))
theorem RowTx.below {w w' : World} {A : Option Addr} {n : Nat} {b : Nat → ByteArray} (h : RowTx w A n b) (hb : Below w.heap.size w w') : RowTx w' A n b := fun hn => by
 obtain ⟨g, off, e, hlt, hc⟩ := h hn
 exact ⟨g, off, e, Nat.lt_of_lt_of_le hlt hb.size, fun k hk => (hb.cell (p := ⟨g, _, none⟩) hlt).trans (hc k hk)⟩
def TxsRet (x : Nat → Lin) (d : Int) (n : Nat) (w : World) (e : Ending) (w' : World) : Prop :=
 ∃ A c m, e = .returned (.tuple #[.slice A m c, .int .i64 (txE x d n)]) ∧ m = (if txE x d n = 0 then n else 0) ∧ RowTx w' A m (txB x d) ∧ Below w.heap.size w w'
theorem own_tx {w : World} {base n : Nat} {e : TypeId} {A : Option Addr} {c : Nat} {x : Nat → Lin} {d : Int} (h : w.ownsRow base e 1 (.slice A n c) n (txsL x d n)) : RowTx w A n (txB x d) := fun hn => by
 rcases h.2 with ⟨e2, h0⟩ | ⟨g, cap, cur, hv, hg, hh, h3, h4, h5, h6⟩
 ·omega
 ·injection hv with e1 _ _
  subst e1
  refine ⟨g, 0, rfl, heap_lt hh, fun k hk => ?_⟩
  have f1 := txsL_at x d hk
  rw [← h6, List.getElem?_take] at f1
  split at f1
  ·rw [Nat.zero_add]; exact (cell_of_cells hh _).trans (by simpa using f1)
  ·cases f1
theorem str_info : (Tryz.prog.info? 9).map (fun i => (i.zero, i.size, i.bytes)) = some (some (.string ⟨#[]⟩), 1, 16) := by kernel_rfl
def TsI (x : Nat → Lin) (d : Int) (n : Nat) (w : World) (v6 v : Value) (wr : World) : Prop :=
 ∃ (k : Nat) (A : Option Addr) (c : Nat), k ≤ n ∧ v = .int .i64 k ∧ v6 = .slice A k c ∧ txE x d k = 0 ∧ wr.ownsRow w.heap.size 9 1 (.slice A k c) k (txsL x d k) ∧ Below w.heap.size w wr
set_option maxHeartbeats 4000000 in
theorem etexts_any (A : Option Addr) (n c : Nat) (x : Nat → LnR) (d : Int) (hn : n ≤ 1000) (hx : ∀ k, k < n → (x k).1.sl.length ≤ 1000 ∧ WIn (x k).1.gr ∧ IB (x k).1.sl.length (fsts (x k).1.sl) (snds (x k).1.sl)) (w : World) (hr : RowLn w A n x) (ht : Tab w) :
  Calls Tryz.prog 13 #[.slice A n c, .int .i64 d] w (TxsRet (linOf x) d n w) := by
 have HR := hide hr
 have HT := hide ht
 have HX := hide hx
 clear hr ht hx
 obtain ⟨i0, hi0, hz00, hz1, hz2⟩ := info_parts str_info
 go_enter Tryz.func13, Tryz.ntmps13
 go_wp2_with fail
 go_loopw [6, 13] (fun v6 v wr => TsI (linOf x) d n w v6 v wr) (fun _ v _ => n - (intOf v).toNat)
 case atStart => exact ⟨0, none, 0, by omega, rfl, rfl, rfl, ⟨by simp [txsL], .inl ⟨rfl, rfl⟩⟩, Below.refl _ _⟩
 case round =>
  obtain ⟨k, A1, c1, hk, rfl, rfl, hE, ho, hB⟩ := hrel
  have HE := hide hE
  have HO := hide ho
  clear hE ho
  have hzB := hB.size
  by_cases hlt : k < n
  ·obtain ⟨b1, o1, rfl, hb1, c0, c1', c2, c3, c4, c5, c6⟩ := (HR.out.below hB).at hlt
   have hm1 : (k : Int) < n := by omega
   have hm3 : (0 : Int) ≤ (k : Int) := by omega
   have HK := hide hlt
   have HSL := hide ((HR.out.below hB).sl k hlt)
   obtain ⟨x1, x2, x3⟩ := HX.out k hlt
   clear hlt hk
   go_wp2_with fail
   refine (etext_any (x k).1 (x k).2.1 (x k).2.2 d x1 x2 _ (HSL.out.below belT) x3 ((HT.out.below hB).below belT)).mono ?_
   rintro e w1 ⟨rfl, hb⟩
   have q1B : Below wr.heap.size wr w1 := qB hb
   have q1z := hb.size
   try simp at q1z
   have q1t : wr.heap.size ≤ w1.heap.size := (by omega)
   have q1o := belO q1B
   clear hb
   by_cases he : tE (x k).1 d = 0
   ·have HT1 := hide ((txE_ok HE.out).trans he)
    obtain ⟨bt, hbt⟩ : ∃ b, b = (⟨(tL (x k).1 d).toArray⟩ : ByteArray) := ⟨_, rfl⟩
    rw [he, ← hbt]
    have HB := hide (show bt = txB (linOf x) d k from hbt)
    clear he hbt
    go_wp2_with (at_builtin; go_loud (refine wpList_append_own2 _ rfl (.tmp 26) (.tmp 28) 45 rfl w.heap.size 9 i0 (.string ⟨#[]⟩) 1 16 Tryz.underlying45 hi0 hz00 hz1 hz2 rfl (by decide) _ _ _ rfl ((owns_below HO.out q1B).alloc _) ⟨w1.heap.size, 0, none⟩ 1 1 [.string bt] rfl rfl (news1 (by simp [go_sem])) (ones_all rfl) (by have := HK.out; simp only [maxLen]; omega) (by have := HK.out; omega) (by simp; omega) ?_); intro A9 c9 w9 ho9 hg9 hv9)
    have hs9 := hg9.size
    simp at hs9
    go_roundw
    case rel => exact ⟨k + 1, A9, c9, HK.out, by go_num, rfl, HT1.out, by rw [HB.out] at ho9; exact ho9, hB.trans (Below.trans (q1B.mono (by omega)) (by refine Below.trans ?_ (below_grown (B := w.heap.size) hg9 (by simp; omega) (own_ge HO.out)); (repeat (first | (with_reducible first | exact Below.refl _ _ | assumption | refine Below.drew ?_) | ((with_reducible first | refine Below.alloc ?_ ?_ _ | refine Below.setCell ?_ ?_ _); rotate_left; (first | omega | (simp <;> omega)))))))⟩
    case measure => have := HK.out; simp [intOf]; omega
   ·have HT1 := hide (show txE (linOf x) d n = tE (x k).1 d from by
     have h1 := (txE_ok HE.out : txE (linOf x) d (k + 1) = tE (linOf x k) d)
     rw [txE_mono (k := k + 1) (by rw [h1]; exact he) HK.out, h1]; rfl)
    have HN := hide he
    have he2 : (tE (x k).1 d != 0) = true := by simpa using he
    clear he
    go_wp2_with fail
    go_ret2
    refine ⟨none, 0, 0, by rw [HT1.out]; rfl, by rw [HT1.out, if_neg HN.out], fun h => absurd h (by omega), hB.trans (q1B.mono (by omega))⟩
  ·obtain rfl : k = n := by omega
   clear hlt hk
   go_wp2_with fail
   go_ret2
   exact ⟨A1, c1, k, by rw [HE.out]; rfl, by rw [HE.out]; rfl, own_tx HO.out, hB⟩
end Go.Proofs.YtdjlaiilngechaaGreatDoor
