/- Texts laid together: TvG TvZ TwA. -/
import Derived.Test.YtpghciiifnjimaaGreatDoorXTvL
import Derived.Test.YtpghciiifnjimaaGreatDoorXTvY
import Derived.Test.YtpghciiifnjimaaGreatDoorXK0
namespace Go.Proofs.YtpghciiifnjimaaGreatDoor
set_option maxRecDepth 4000
set_option linter.unusedSimpArgs false
set_option linter.unusedVariables false
open Go.RowKit Go.Shelf
attribute [local go_sem] Oper.semAt_some
def fst1O (E : Nat → LEnt) (s : Int) (x : Nat × Nat) : Int := wrap64 (s - ((E x.1).legs x.2).am)
def fsumO (E : Nat → LEnt) (l : List (Nat × Nat)) : Int := l.foldl (fst1O E) 0
theorem fsum_snocO (E : Nat → LEnt) (l : List (Nat × Nat)) (x : Nat × Nat) : fsumO E (l ++ [x]) = fst1O E (fsumO E l) x := by simp [fsumO]
theorem foldl_inO (E : Nat → LEnt) : ∀ (l : List (Nat × Nat)) (s : Int), IIn s → IIn (l.foldl (fst1O E) s)
 | [], _, h => h
 | x :: l, s, _ => foldl_inO E l _ (wrap64_bd _)
theorem fsum_inO (E : Nat → LEnt) (l : List (Nat × Nat)) : IIn (fsumO E l) := foldl_inO E l 0 (by unfold IIn; omega)
theorem fsum_legsO (E : Nat → LEnt) (id : Int) (k : Nat) : ∀ i, fsumO E (toE E id k ++ toL E id k i) = wrap64 (fsumO E (toE E id k) + mvs (E k).legs id i)
 | 0 => by
  unfold toL mvs
  rw [List.append_nil, Int.add_zero, wrap64_id (fsum_inO E _)]
 | i + 1 => by
  have ih := fsum_legsO E id k i
  by_cases h : ((E k).legs i).ac = id
  ·rw [toL_yes h, ← List.append_assoc, fsum_snocO, ih]
   unfold fst1O
   have hm : mvs (E k).legs id (i + 1) = wrap64 (mvs (E k).legs id i - ((E k).legs i).am) := if_pos h
   rw [hm]
   exact wr_step _ _ _
  ·rw [toL_no h, ih]
   have hm : mvs (E k).legs id (i + 1) = mvs (E k).legs id i := if_neg h
   rw [hm]
theorem fsum_allO (E : Nat → LEnt) (id : Int) : ∀ n, fsumO E (toE E id n) = sumE E id (fun _ => true) n
 | 0 => rfl
 | n + 1 => by
  unfold toE sumE
  rw [fsum_legsO, fsum_allO E id n]
  rfl
def OfI (E : Nat → LEnt) (w : World) (pre : List (Nat × Nat)) (W : World) : Prop :=
 Boxed W w.heap.size 3 (.int .i64 (fsumO E pre)) ∧ Below w.heap.size w W
def OfX (E : Nat → LEnt) (A : Option Addr) (jn jc : Nat) (id : Int) (w : World) (x : Nat × Nat) (a' : Act) (_W : World) : Prop :=
 a' = { tmps := #[.slice A jn jc, .int .i64 id, undef, undef, .int .i64 0, .pointer (some ⟨w.heap.size, 0, none⟩), undef, .int .i64 ((E x.1).legs x.2).am, .slice A jn jc, .int .i64 id, .func (.func 82) #[] #[.pointer (some ⟨w.heap.size + 1, 0, none⟩), .pointer (some ⟨w.heap.size + 2, 0, none⟩)], entA (E x.1), .int .i64 ((E x.1).legs x.2).am, undef, undef, undef, undef], defers := [] }
set_option maxRecDepth 100000 in
set_option maxHeartbeats 4000000 in
theorem of_in (F : Fence) (n : Nat) (h0 : F.fn 16) (h5 : F.fn 39) (hf : F.fn 82) (hro : F.round = none) (hn : 4 ≤ n) (A : Option Addr) (jn jc : Nat) (E : Nat → LEnt) (id : Int) (hjn : jn ≤ 1000000) (w : World) (hj : Jrn w A jn E) :
  CallsIn F n Tryz.prog 16 #[.slice A jn jc, .int .i64 id] w fun e w' => e = .returned (.int .i64 (sumE E id (fun _ => true) jn)) ∧ Below w.heap.size w w' := by
 have h1 : 1 ≤ n := by omega
 have HJ := hide hj
 refine callsIn_of_wp_marks Tryz.func16 rfl h0 ?_ hro
 simp only [Tryz.ntmps16, List.size_toArray, List.length_cons, List.length_nil, Nat.reduceAdd, Nat.reduceSub, Array.replicate_succ, Array.replicate_zero, List.push_toArray, List.append_toArray, List.nil_append, List.cons_append]
 clear hj
 gi_wp2_with (gi_at_call 39; refine (movs_in F (n - 1) h5 hro _ _ _ _ _).mono ?_; rintro e w' ⟨rfl, rfl⟩)
 have b2 := ((Boxed.new w 3 (.int .i64 0)).alloc (.cells #[.slice A jn jc] 29)).alloc (.cells #[.int .i64 id] 3)
 have b3 := (Boxed.new (w.alloc (.cells #[.int .i64 0] 3)) 29 (.slice A jn jc)).alloc (.cells #[.int .i64 id] 3)
 have b4 := Boxed.new ((w.alloc (.cells #[.int .i64 0] 3)).alloc (.cells #[.slice A jn jc] 29)) 3 (.int .i64 id)
 simp only [World.size_alloc] at b2 b3 b4
 have hB0 : Below w.heap.size w (((w.alloc (.cells #[.int .i64 0] 3)).alloc (.cells #[.slice A jn jc] 29)).alloc (.cells #[.int .i64 id] 3)) := by (repeat (first | (with_reducible first | exact Below.refl _ _ | assumption | refine Below.drew ?_) | ((with_reducible first | refine Below.alloc ?_ ?_ _ | refine Below.setCell ?_ ?_ _); rotate_left; (first | omega | (simp <;> omega)))))
 have hsz : (((w.alloc (.cells #[.int .i64 0] 3)).alloc (.cells #[.slice A jn jc] 29)).alloc (.cells #[.int .i64 id] 3)).heap.size = w.heap.size + 3 := by simp
 obtain ⟨W0, hW0⟩ : ∃ W0, (((w.alloc (.cells #[.int .i64 0] 3)).alloc (.cells #[.slice A jn jc] 29)).alloc (.cells #[.int .i64 id] 3)) = W0 := ⟨_, rfl⟩
 rw [hW0] at b2 b3 b4 hB0 hsz ⊢
 clear hW0
 refine wpIn_rangeFunc_ownH hro h1 (gf := 82) (lb := #[.pointer (some ⟨w.heap.size + 1, 0, none⟩), .pointer (some ⟨w.heap.size + 2, 0, none⟩)]) rfl hf (enters_of Tryz.func82 (by kernel_rfl) rfl)
  (mov_stops F (n - 1) hf hro (by omega) (w.heap.size + 1) (w.heap.size + 2) w.heap.size A jn jc E id hjn w W0 hB0 HJ.out b3 b4 (by omega) (by omega)) (fun h k => KpM.trans h k) (kpM_b (by omega)) (Below.refl _ _) (fun _ => rfl)
  (OfI E w)
  (fun _ _ _ => False)
  (OwnFrom.and (Own.from (boxed_own _ _ _) _) (ownFrom_below (Nat.le_refl _) (by omega)))
  (fun _ _ _ _ _ hs _ _ => hs)
  ⟨b2, hB0⟩
  (OfX E A jn jc id w)
  (fun x a' _ X Y row hs hg hr => hs)
  ?assign ?body ?done ?stop
 case assign =>
  rintro l pre x W K ⟨bS1, hB1⟩ hK
  gi_wp2
  exact hK _ _ (KeepsFrom.refl _ _) (KpM.refl _ _ _) ⟨bS1, hB1⟩ rfl
 case body =>
  rintro l pre x a' W hl ⟨r, hr⟩ ⟨bS1, hB1⟩ rfl hlt
  have cS := bS1.cell
  have fS := bS1.frozen
  have HF := hide (fsum_snocO E pre x)
  have z2 := bS1.lt
  gi_wp2
  exact ⟨(KeepsOthers.setCell _ _ _).from _, KpM.set W _ (by omega), ⟨by rw [HF.out]; exact bS1.set _, hB1.setCell (p := ⟨w.heap.size, 0, none⟩) (by simp) _⟩⟩
 case done =>
  rintro D zs W hD rfl ⟨bS1, hB1⟩ hK
  have cS := bS1.cell
  gi_wp2
  refine ⟨by simp, .inl ⟨_, _, rfl, run_takeDeferred hK, ?_⟩⟩
  exact ⟨_, results_tmp rfl _ _ _, by rw [fsum_allO]; rfl, hB1.trans (belowK_b (w := w) (Nat.le_refl _) W D _ _ (by omega) hK rfl rfl)⟩
 case stop =>
  rintro D c pre W _ _ h _
  exact h.elim
theorem of_any (A : Option Addr) (jn jc : Nat) (E : Nat → LEnt) (id : Int) (hjn : jn ≤ 1000000) (w : World) (hj : Jrn w A jn E) :
  Calls Tryz.prog 16 #[.slice A jn jc, .int .i64 id] w fun e w' => e = .returned (.int .i64 (sumE E id (fun _ => true) jn)) ∧ Below w.heap.size w w' :=
 (callsIn_wide (n := 4)).1 (of_in Fence.wide 4 trivial trivial trivial rfl (by decide) A jn jc E id hjn w hj)
end Go.Proofs.YtpghciiifnjimaaGreatDoor
namespace Go.Proofs.YtpghciiifnjimaaGreatDoor
set_option maxRecDepth 4000
set_option linter.unusedSimpArgs false
set_option linter.unusedVariables false
open Go.RowKit
/-- Books with one entry more. -/
def LBk.put (B : LBk) (A : Option Addr) (c : Nat) (e : LEnt) : LBk := { B with C := B.C.setIfInBounds 19 (.slice A (B.jn + 1) c), jA := A, jn := B.jn + 1, jc := c, E := putE B.E B.jn e }
theorem ones_set {C : Array Value} (h : C.all (·.oneCell') = true) (i : Nat) {v : Value} (hv : v.oneCell' = true) : (C.setIfInBounds i v).all (·.oneCell') = true := by
 rw [Array.all_eq_true_iff_forall_mem] at h ⊢
 intro x hx
 rcases Array.mem_or_eq_of_mem_setIfInBounds hx with h1 | rfl
 ·exact h x h1
 ·exact hv
theorem BkOK.put {B : LBk} (h : BkOK B) (hj : B.jn ≤ 999999) (A : Option Addr) (c : Nat) (e : LEnt) : BkOK (B.put A c e) where
 bks := ⟨by show (B.C.setIfInBounds 19 _).size = 22; rw [Array.size_setIfInBounds]; exact h.bks.size,
  by show (B.C.setIfInBounds 19 _)[18]? = _; rw [Array.getElem?_setIfInBounds_ne (by decide)]; exact h.bks.acc,
  by show (B.C.setIfInBounds 19 _)[19]? = _; rw [Array.getElem?_setIfInBounds_self_of_lt (by rw [h.bks.size]; decide)]; rfl⟩
 pro := by show (B.C.setIfInBounds 19 _)[17]? = _; rw [Array.getElem?_setIfInBounds_ne (by decide)]; exact h.pro
 an := h.an
 jn := by show B.jn + 1 ≤ 1000000; omega
 pn := h.pn
 ones := ones_set h.ones _ rfl
 cells := h.cells
 cr := h.cr
 db := h.db
theorem TbOK.put {B : LBk} {D : LTb} (h : TbOK B D) (A : Option Addr) (c : Nat) (e : LEnt) : TbOK (B.put A c e) D where
 cu := by show (B.C.setIfInBounds 19 _)[0]? = _; rw [Array.getElem?_setIfInBounds_ne (by decide)]; exact h.cu
 ch := by show (B.C.setIfInBounds 19 _)[2]? = _; rw [Array.getElem?_setIfInBounds_ne (by decide)]; exact h.ch
 gn := h.gn
 un := h.un
 pc := h.pc
theorem dd {p : Prop} [Decidable p] (h : decide p = true := by rfl) : p := of_decide_eq_true h
def lvI (ti : Nat) : LInt := ⟨some ⟨ti, 0, none⟩, 1, 1, false, 1, 6, false, fun _ => 0, fun _ => 36000⟩
def lvP (ti : Nat) : LPro := ⟨lvPC ti, xGiro, 9000, lvI ti, lvI ti⟩
def lvA (s1 s2 : ByteArray) (k : Nat) : LAcc := if k = 0 then ⟨1000, 9678, 0, 0, ⟨#[97, 110, 110, 97]⟩, xGiro, s1⟩ else ⟨1001, 9678, 0, 0, ⟨#[98, 101, 110]⟩, xGiro, s2⟩
def lvB (cu ca ch pr ac ti : Nat) (s1 s2 : ByteArray) : LBk := ⟨lvC cu ca ch pr ac, some ⟨ac, 0, none⟩, 2, 2, lvA s1 s2, none, 0, 0, fun _ => ⟨0, 0, 0, 0, 0, 0, ⟨#[]⟩, ⟨#[]⟩, none, 0, 0, 0, fun _ => ⟨0, 0, ⟨#[]⟩⟩⟩, some ⟨pr, 0, none⟩, 1, 1, fun _ => lvP ti⟩
def lvG (k : Nat) : LGl := match k with
 | 0 => ⟨101, 0, 1, ⟨#[99, 97, 115, 104]⟩⟩
 | 1 => ⟨102, 0, 1, ⟨#[99, 108, 101, 97, 114, 105, 110, 103]⟩⟩
 | 2 => ⟨103, 0, 1, ⟨#[108, 111, 97, 110, 115]⟩⟩
 | 3 => ⟨201, 0, 2, ⟨#[100, 101, 112, 111, 115, 105, 116, 115]⟩⟩
 | 4 => ⟨202, 0, 2, ⟨#[111, 116, 104, 101, 114]⟩⟩
 | 5 => ⟨301, 0, 4, ⟨#[105, 110, 99, 111, 109, 101]⟩⟩
 | _ => ⟨401, 0, 5, ⟨#[101, 120, 112, 101, 110, 115, 101]⟩⟩
def lvD (cu ch : Nat) : LTb := ⟨some ⟨ch, 0, none⟩, 7, 7, lvG, some ⟨cu, 0, none⟩, 1, 1, fun _ => ⟨xEur, 2⟩⟩
theorem lvP_ok (ti : Nat) : PrC (lvP ti).C (lvP ti) := ⟨rfl, by show (lvPC ti).all _ = true; kernel_rfl, rfl, rfl, rfl, rfl, rfl, rfl, rfl, rfl, rfl, rfl, rfl, rfl⟩
theorem lvI_ok (ti : Nat) : InI (lvI ti) := ⟨dd, fun _ _ => ⟨⟨dd, dd⟩, ⟨dd, dd⟩⟩, ⟨dd, dd⟩⟩
theorem lvB_ok (cu ca ch pr ac ti : Nat) (s1 s2 : ByteArray) : BkOK (lvB cu ca ch pr ac ti s1 s2) where
 bks := ⟨rfl, rfl, rfl⟩
 pro := rfl
 an := dd
 jn := dd
 pn := dd
 ones := bo_one cu ca ch pr ac
 cells := fun _ _ => lvP_ok ti
 cr := fun _ _ => lvI_ok ti
 db := fun _ _ => lvI_ok ti
theorem lvD_ok (cu ca ch pr ac ti : Nat) (s1 s2 : ByteArray) : TbOK (lvB cu ca ch pr ac ti s1 s2) (lvD cu ch) := ⟨rfl, rfl, dd, dd, fun _ _ => ⟨xEur, rfl⟩⟩
theorem row2_of {w : World} {b : Nat} {x y : Int} {t : TypeId} (h : w.heap[b]? = some (.cells #[.int .i64 x, .int .i64 y] t (0, 0))) : Row2 w (some ⟨b, 0, none⟩) 1 (fun _ => x) (fun _ => y) := fun _ => ⟨b, 0, rfl, heap_lt h, fun k hk => by
 obtain rfl : k = 0 := by omega
 exact ⟨cell_of_cells h 0, cell_of_cells h 1⟩⟩
theorem lvB_in {w : World} {cu ca ch pr ac ti : Nat} {s1 s2 : ByteArray} (h : LvM w cu ca ch pr ac ti s1 s2) : BkIn w (lvB cu ca ch pr ac ti s1 s2) where
 acc := rowS_of h.ac (fun k j hk hj => by
  match k, hk, j, hj with
  | 0, _, 0, _ | 0, _, 1, _ | 0, _, 2, _ | 0, _, 3, _ | 0, _, 4, _ | 0, _, 5, _ | 0, _, 6, _ => rfl
  | 1, _, 0, _ | 1, _, 1, _ | 1, _, 2, _ | 1, _, 3, _ | 1, _, 4, _ | 1, _, 5, _ | 1, _, 6, _ => rfl)
 jrn := ⟨⟨fun h => absurd h (dd), fun k hk => absurd hk (Nat.not_lt_zero _)⟩, fun k hk => absurd hk (Nat.not_lt_zero _)⟩
 pro := ⟨fun _ => ⟨pr, 0, rfl, heap_lt h.pr, fun k j v hk hv => by
  obtain rfl : k = 0 := by have : k < 1 := hk; omega
  have e : pr = pr := rfl
  show w.cell? ⟨pr, 0 + 0 * 19 + j, none⟩ = some v
  rw [show 0 + 0 * 19 + j = j by omega, cell_of_cells h.pr]
  exact hv⟩, fun _ _ => row2_of h.ti, fun _ _ => row2_of h.ti⟩
theorem lvD_in {w : World} {cu ca ch pr ac ti : Nat} {s1 s2 : ByteArray} (h : LvM w cu ca ch pr ac ti s1 s2) : TbIn w (lvD cu ch) where
 g := rowS_of h.ch (fun k j hk hj => by
  match k, hk, j, hj with
  | 0, _, 0, _ | 0, _, 1, _ | 0, _, 2, _ | 0, _, 3, _ => rfl
  | 1, _, 0, _ | 1, _, 1, _ | 1, _, 2, _ | 1, _, 3, _ => rfl
  | 2, _, 0, _ | 2, _, 1, _ | 2, _, 2, _ | 2, _, 3, _ => rfl
  | 3, _, 0, _ | 3, _, 1, _ | 3, _, 2, _ | 3, _, 3, _ => rfl
  | 4, _, 0, _ | 4, _, 1, _ | 4, _, 2, _ | 4, _, 3, _ => rfl
  | 5, _, 0, _ | 5, _, 1, _ | 5, _, 2, _ | 5, _, 3, _ => rfl
  | 6, _, 0, _ | 6, _, 1, _ | 6, _, 2, _ | 6, _, 3, _ => rfl)
 u := rowS_of h.cu (fun k j hk hj => by
  match k, hk, j, hj with
  | 0, _, 0, _ | 0, _, 1, _ => rfl)
/-- The example's entry. -/
def lvE (b : Nat) : LEnt := ⟨0, 9678, 9678, 1, 0, 0, ⟨#[107]⟩, ⟨#[]⟩, some ⟨b, 0, none⟩, 2, 2, 0, fun k => if k = 0 then ⟨101, 100000, xEur⟩ else ⟨1000, -100000, xEur⟩⟩
theorem lvE_s (b : Nat) : EntS (lvE b) where
 ln := dd
 key := dd
 tx := dd
 cu := fun k hk => by
  match k, hk with
  | 0, _ => exact dd
  | 1, _ => exact dd
 am := fun k hk => by
  match k, hk with
  | 0, _ => exact ⟨⟨dd, dd⟩, ⟨dd, dd⟩⟩
  | 1, _ => exact ⟨⟨dd, dd⟩, ⟨dd, dd⟩⟩
 id := ⟨dd, dd⟩
 bk := ⟨dd, dd⟩
 va := ⟨dd, dd⟩
 ki := ⟨dd, dd⟩
 au := ⟨dd, dd⟩
 pe := ⟨dd, dd⟩
theorem lvE_row {w : World} {b : Nat} (h : w.heap[b]? = some (.cells lvLg 107 (0, 0))) : RowLeg w (lvE b).lA (lvE b).ln (lvE b).legs := rowS_of h (fun k j hk hj => by
 match k, hk, j, hj with
 | 0, _, 0, _ | 0, _, 1, _ | 0, _, 2, _ => rfl
 | 1, _, 0, _ | 1, _, 1, _ | 1, _, 2, _ => rfl)
theorem lv_has (cu ca ch pr ac ti : Nat) (s1 s2 : ByteArray) : hasA (lvB cu ca ch pr ac ti s1 s2).a 1000 (lvB cu ca ch pr ac ti s1 s2).an = true := rfl
theorem lv_act (cu ca ch pr ac ti : Nat) (s1 s2 : ByteArray) : actB (lvB cu ca ch pr ac ti s1 s2) 1000 9678 = true := rfl
theorem lv_bst (ti : Nat) : bstP (fun _ => lvP ti) xGiro 9678 1 = some 0 := by
 unfold bstP
 exact if_pos ⟨by simp [lvP], dd, rfl⟩
theorem lv_legs (cu ca ch pr ac ti : Nat) (s1 s2 : ByteArray) (b : Nat) : legsE (lvB cu ca ch pr ac ti s1 s2) (lvD cu ch) 9678 (lvE b).legs 2 = 0 := by
 have hU : hasU (lvD cu ch).U xEur (lvD cu ch).un = true := by show hasU (fun _ => ⟨xEur, 2⟩) xEur 1 = true; simp [hasU]
 have h0 : legE (lvB cu ca ch pr ac ti s1 s2) (lvD cu ch) 9678 ⟨101, 100000, xEur⟩ = 0 := by
  unfold legE
  rw [if_pos (dd)]
  unfold ledE
  rw [if_neg (by show ¬ hasG lvG 101 7 = false; exact dd), if_neg (by show ¬ parG lvG 101 7 = true; exact dd), if_neg (by show ¬ hasU (lvD cu ch).U xEur (lvD cu ch).un = false; rw [hU]; exact dd)]
 have h1 : legE (lvB cu ca ch pr ac ti s1 s2) (lvD cu ch) 9678 ⟨1000, -100000, xEur⟩ = 0 := by
  unfold legE
  rw [if_neg (dd)]
  unfold cusE
  rw [if_neg (by rw [lv_has]; exact dd), if_neg (by show ¬ hasU (lvD cu ch).U xEur (lvD cu ch).un = false; rw [hU]; exact dd)]
  show pickO (bstP (fun _ => lvP ti) xGiro 9678 1) 14 _ = 0
  rw [lv_bst, lv_act]
  show (if (curP (lvP ti)).toList == xEur.toList then (if true = true then (0 : Int) else 16) else 14) = 0
  rw [show curP (lvP ti) = xEur from rfl]
  simp
 show (if (if (0 : Int) = 0 then legE _ _ 9678 ⟨101, 100000, xEur⟩ else 0) = 0 then legE _ _ 9678 ⟨1000, -100000, xEur⟩ else (if (0 : Int) = 0 then legE _ _ 9678 ⟨101, 100000, xEur⟩ else 0)) = 0
 rw [if_pos rfl, h0, if_pos rfl, h1]
theorem lv_po (cu ca ch pr ac ti : Nat) (s1 s2 : ByteArray) (b : Nat) : poE (lvB cu ca ch pr ac ti s1 s2) (lvD cu ch) (lvE b) 0 0 = 0 := by
 unfold poE
 rw [if_neg (dd), if_neg (dd), if_neg (by rw [show (lvE b).bk = 9678 from rfl, show (lvE b).ln = 2 from rfl, lv_legs]; exact dd), if_neg (dd)]
 rfl
theorem lv_sum (E : Nat → LEnt) (b : Nat) (e : LEnt) (h : SealOf (lvE b) 0 e) : sumE (putE E 0 e) 1000 (fun _ => true) 1 = 100000 := by
 obtain ⟨A, c, z, rfl, _⟩ := h
 have e1 : putE E 0 { lvE b with id := ((0 : Nat) : Int) + 1, lA := A, lc := c, ch := z } 0 = { lvE b with id := ((0 : Nat) : Int) + 1, lA := A, lc := c, ch := z } := if_neg (Nat.lt_irrefl 0)
 show wrap64 (0 + mvE (putE E 0 { lvE b with id := ((0 : Nat) : Int) + 1, lA := A, lc := c, ch := z } 0) 1000) = _
 rw [e1]
 show wrap64 (0 + mvs (fun k => if k = 0 then ⟨101, 100000, xEur⟩ else ⟨1000, -100000, xEur⟩) 1000 2) = 100000
 have e2 : mvs (fun k => if k = 0 then ⟨101, 100000, xEur⟩ else ⟨1000, -100000, xEur⟩) 1000 2 = 100000 := by
  simp [mvs, wrap64]
 rw [e2]
 simp [wrap64]
end Go.Proofs.YtpghciiifnjimaaGreatDoor
namespace Go.Proofs.YtpghciiifnjimaaGreatDoor
set_option maxRecDepth 4000
set_option linter.unusedSimpArgs false
set_option linter.unusedVariables false
open Go.RowKit
set_option maxRecDepth 20000 in
set_option maxHeartbeats 8000000 in
theorem floor_any (B : LBk) (hB : BkOK B) (id day : Int) (k : Nat) (od : Int) (hh : hasA B.a id B.an = true) (hp : prdB B id day = some k) (hk : k < B.pn) (h5 : (B.P k).C[5]? = some (.int .i64 od)) (w : World) (hw : BkIn w B) :
  Calls Tryz.prog 100 #[.agg B.C, .int .i64 id, .int .i64 day] w fun r w' => r = .returned (.tuple #[.int .i64 (wrap64 (-(wrap64 (od + (getA B.a id B.an).ex)))), .int .i64 0]) ∧ Below w.heap.size w w' := by
 obtain ⟨i0, Z, hi0, hi1, hi2⟩ := pz_zero
 have HI := hide (And.intro hi0 hi1)
 have HZ1 := hide hi2
 have HW := hide hw
 have HS := hide (bk_size hB)
 obtain ⟨x, hx⟩ : ∃ x, x = getA B.a id B.an := ⟨_, rfl⟩
 have HF := hide (fun W hr => by have t := find_any B.C B.aA B.an B.ac B.jA B.jn B.jc hB.bks B.a id hB.an W hr; rw [← hx, hh] at t; exact t)
 have HP := hide (fun W h => by have t := product_any B hB id day W h; rw [hp] at t; exact t)
 have H5 := hide h5
 have HX := hide hx
 rw [← hx]
 clear hB hw hi0 hi1 hi2 hx hh hp h5
 go_enter Tryz.func100, Tryz.ntmps100
 go_wp2_with (with_reducible refine wpList_load_row rfl 33 (.tmp 3) rfl w.heap.size rfl 33 B.C (0, 0) _ (blk_new rfl) Tryz.underlying33 rfl HS.out ?_)
 refine (HF.out _ (HW.out.acc.below belT)).mono ?_
 rintro r w1 ⟨rfl, hb⟩
 have HC1 := hide (blk_below hb (by first | omega | (simp <;> omega)) (blk_new (w := w) (o := .cells B.C 33) rfl))
 have q1B : Below w.heap.size w w1 := qB hb
 have q1z := hb.size
 try simp at q1z
 have q1t : w.heap.size ≤ w1.heap.size := (by omega)
 have q1o := belO q1B
 clear hb
 have B1 := hide q1B
 have z1 : w.heap.size < w1.heap.size := heap_lt HC1.out
 go_wp2_with (with_reducible refine wpList_load_row rfl 33 (.tmp 3) rfl w.heap.size rfl 33 B.C (0, 0) _ (blk_under HC1.out) Tryz.underlying33 rfl HS.out ?_)
 refine (HP.out _ (HW.out.below (B1.out.trans belT))).mono ?_
 rintro r w2 ⟨C, b, rfl, hs, h1, ⟨rfl, rfl⟩, hb⟩
 have HH := hide (And.intro hs h1)
 clear hs h1
 have q2B : Below w1.heap.size w1 w2 := qB hb
 have q2z := hb.size
 try simp at q2z
 have q2t : w1.heap.size ≤ w2.heap.size := (by omega)
 obtain ⟨q2s0, q2n0_0, q2n0_1, q2n0_2⟩ := kB w2.heap.size w1.heap.size
 obtain ⟨q2c0_0, q2c0_1, q2c0_2, q2c0_3, q2c0_4, q2c0_5, q2c0_6, q2f0⟩ := kC7 hb w1.heap.size
 simp [go_sem, *] at q2c0_0 q2c0_1 q2c0_2 q2c0_3 q2c0_4 q2c0_5 q2c0_6 q2f0
 have q2o := belO q2B
 clear hb q1o q1z q1B
 have B2 := hide (B1.out.trans (q2B.mono (by omega)))
 go_wp2_with (first
  | (with_reducible refine wpList_alloc_row rfl 88 rfl (some 10) rfl i0 HI.out.1 Z HI.out.2 w2.heap.size rfl ?_)
  | ((with_reducible refine wpList_store_newrow2 rfl 88 (.tmp 10) (.tmp 23) rfl rfl w2.heap.size (B.P k).C rfl rfl 88 Z (blk_new rfl) (pz_size HH.out.1) (by rw [HZ1.out, HH.out.1]) HH.out.2 ?_); intro w5 hb5 hs5 hx5 hk5; refine Hid.out ?_))
 refine Lib.hid ?_
 have B5 := hide (B2.out.trans ((show Below w2.heap.size w2 w5 from Below.trans belT hb5).mono B2.out.size))
 have cc := (cell_of_cells hx5 5).trans H5.out
 have e0 := (World.cell?_of_block (a := ⟨w1.heap.size, 3, none⟩) (hk5 _ (by simp; omega)))
 simp [go_sem, *] at e0
 clear hb5 hx5 hk5
 go_wp2_with fail
 go_ret2
 exact ⟨rfl, B5.out⟩
set_option maxRecDepth 20000 in
set_option maxHeartbeats 8000000 in
theorem safe_yes (B : LBk) (hB : BkOK B) (id day : Int) (k : Nat) (od : Int) (hh : hasA B.a id B.an = true) (hp : prdB B id day = some k) (hk : k < B.pn) (h5 : (B.P k).C[5]? = some (.int .i64 od)) (f s : Int) (hf : wrap64 (-(wrap64 (od + (getA B.a id B.an).ex))) = f) (hs : sumE B.E id (fun _ => true) B.jn = s) (hfs : f ≤ s) (w : World) (hw : BkIn w B) :
  Calls Tryz.prog 49 #[.agg B.C, .int .i64 id, .int .i64 day] w fun r w' => r = .returned (.bool true) ∧ Below w.heap.size w w' := by
 have HW := hide hw
 have HS := hide (bk_size hB)
 have h19 := hB.bks.jou
 have HF := hide (fun W h => by have t := floor_any B hB id day k od hh hp hk h5 W h; rw [hf] at t; exact t)
 have HO := hide (fun W h => by have t := of_any B.jA B.jn B.jc B.E id hB.jn W h; rw [hs] at t; exact t)
 have d := decide_eq_true hfs
 clear hB hw hf hs hh hp h5
 go_enter Tryz.func49, Tryz.ntmps49
 go_wp2_with (with_reducible refine wpList_load_row rfl 33 (.tmp 3) rfl w.heap.size rfl 33 B.C (0, 0) _ (blk_new rfl) Tryz.underlying33 rfl HS.out ?_)
 refine (HF.out _ (HW.out.below belT)).mono ?_
 rintro r w1 ⟨rfl, hb⟩
 have q1B : Below w.heap.size w w1 := qB hb
 have q1z := hb.size
 try simp at q1z
 have q1t : w.heap.size ≤ w1.heap.size := (by omega)
 obtain ⟨q1s0, q1n0_0, q1n0_1, q1n0_2⟩ := kB w1.heap.size w.heap.size
 have q1c0_19 := cel hb w.heap.size 19
 simp [go_sem, *] at q1c0_19
 have q1f0 := fun o => fro hb w.heap.size o
 simp [go_sem, *] at q1f0
 have q1o := belO q1B
 clear hb
 have B1 := hide q1B
 go_wp2_with fail
 refine (HO.out _ (HW.out.jrn.below B1.out)).mono ?_
 rintro r w2 ⟨rfl, hb⟩
 have B2 := hide (B1.out.trans (hb.mono B1.out.size))
 clear hb
 go_wp2_with fail
 go_ret
 exact ⟨rfl, B2.out⟩
/-- A journal is as it was where none of its blocks is written. -/
theorem jrn_keep {w w' : World} {A : Option Addr} {n : Nat} {E : Nat → LEnt} (h : Jrn w A n E) (hs : w.heap.size ≤ w'.heap.size) (hA : ∀ b o q, A = some ⟨b, o, q⟩ → w'.heap[b]? = w.heap[b]?)
  (hl : ∀ k, k < n → ∀ b o q, (E k).lA = some ⟨b, o, q⟩ → w'.heap[b]? = w.heap[b]?) : Jrn w' A n E :=
 ⟨⟨fun hn => by
  obtain ⟨b, off, e, hb, hc⟩ := h.row.1 hn
  exact ⟨b, off, e, Nat.lt_of_lt_of_le hb hs, fun k j hk hj => (World.cell?_of_block (a := ⟨b, _, none⟩) (hA _ _ _ e)).trans (hc k j hk hj)⟩, fun k hk hn => by
  obtain ⟨b, off, e, hb, hc⟩ := h.row.2 k hk hn
  exact ⟨b, off, e, Nat.lt_of_lt_of_le hb hs, fun i j hi hj => (World.cell?_of_block (a := ⟨b, _, none⟩) (hl k hk _ _ _ e)).trans (hc i j hi hj)⟩⟩, h.legs⟩
theorem lv_post (cu ca ch pr ac ti : Nat) (s1 s2 : ByteArray) (b : Nat) (W : World) (h : W.heap[b]? = some (.cells lvLg 107 (0, 0))) (hM : LvM W cu ca ch pr ac ti s1 s2) (ht : Tab W) :
  Calls Tryz.prog 12 #[.agg (lvB cu ca ch pr ac ti s1 s2).C, .agg (lvEn b)] W (PoRet (lvB cu ca ch pr ac ti s1 s2) (lvE b) 0 W) := by
 have t := post_any (lvB cu ca ch pr ac ti s1 s2) (lvB_ok cu ca ch pr ac ti s1 s2) dd (lvD cu ch) (lvD_ok cu ca ch pr ac ti s1 s2) (lvE b) 0 0 (fun _ => lvE_s b) (fun W => W.heap[b]? = some (.cells lvLg 107 (0, 0))) (fun _ _ h hb => blk_below hb (heap_lt h) h)
  (fun W h => lv_check b W h) (fun W h hw => lv_allowed (lvB cu ca ch pr ac ti s1 s2) (lvB_ok cu ca ch pr ac ti s1 s2) rfl (lv_has cu ca ch pr ac ti s1 s2) (lv_act cu ca ch pr ac ti s1 s2) b W hw h) (fun k hk => absurd hk (Nat.not_lt_zero _)) W h (lvB_in hM) (lvD_in hM) (lvE_row h) ht
 rw [lv_po] at t
 exact t
set_option maxRecDepth 40000 in
set_option maxHeartbeats 16000000 in
theorem alive_any (w : World) (ht : Tab w) : Calls Tryz.prog 19 #[] w fun r w' => r = .returned (.bool true) ∧ Below w.heap.size w w' := by
 obtain ⟨i0, Z, hi0, hi1, hi2, hi3⟩ := bz_zero
 have HI := hide (And.intro hi0 hi1)
 have HZ2 := hide hi2
 have HZ1 := hide hi3
 have HT := hide ht
 have HSZ := hide (show ∀ (C : Array Value), C.size = 22 → (Tryz.prog.info? 33).map (·.size) = some C.size from fun C h => by rw [h]; kernel_rfl)
 clear hi0 hi1 hi2 hi3 ht
 go_enter Tryz.func19, Tryz.ntmps19
 go_wp2_with fail
 refine (lv_books _).mono ?_
 rintro r w1 ⟨cu, ca, ch, pr, ac, ti, s1, s2, rfl, hM, hb⟩
 have B1 := hide hb
 have HM := hide hM
 obtain ⟨B, hBe⟩ : ∃ B, B = lvB cu ca ch pr ac ti s1 s2 := ⟨_, rfl⟩
 have HB := hide (show BkOK B from hBe ▸ lvB_ok cu ca ch pr ac ti s1 s2)
 have HC := hide (show lvC cu ca ch pr ac = B.C from by rw [hBe]; rfl)
 have HE := hide hBe
 rw [HC.out]
 clear hb hM hBe
 go_wp2_with (first
  | (with_reducible refine wpList_alloc_row rfl 33 rfl (some 1) rfl i0 HI.out.1 Z HI.out.2 w1.heap.size rfl ?_)
  | ((with_reducible refine wpList_store_newrow2 rfl 33 (.tmp 1) (.tmp 3) rfl rfl w1.heap.size B.C rfl rfl 33 Z (blk_new rfl) (HSZ.out _ HB.out.bks.size) (by rw [HZ2.out, HB.out.bks.size]) HB.out.ones ?_); intro w5 hb5 hs5 hx5 hk5; refine Hid.out ?_))
 refine Lib.hid ?_
 have B5 := hide (show Below w.heap.size w w5 from B1.out.trans ((show Below w1.heap.size w1 w5 from Below.trans belT hb5).mono B1.out.size))
 have M5 := hide (HM.out.below (show Below w1.heap.size w1 w5 from Below.trans belT hb5))
 have X5 := hide hx5
 have s5 : w1.heap.size < w5.heap.size := heap_lt hx5
 have z1 := B1.out.size
 clear hb5 hs5 hx5 hk5
 go_wp2_with (with_reducible refine wpList_load_row rfl 33 (.tmp 1) rfl w1.heap.size rfl 33 B.C (0, 0) _ X5.out Tryz.underlying33 rfl (HSZ.out _ HB.out.bks.size) ?_)
 have HPO := hide (fun W h hM ht => by have t := lv_post cu ca ch pr ac ti s1 s2 w5.heap.size W h hM ht; rw [← HE.out] at t; exact t)
 refine (HPO.out _ (blk_new rfl) (M5.out.below belT) (HT.out.below (B5.out.trans belT))).mono ?_
 rintro r w6 hp
 rcases hp with ⟨h0, _⟩ | ⟨_, A, c, e', rfl, hJ, hSe, hA6, hL6, hb⟩
 ·exact absurd rfl h0
 have X6 := hide (blk_below hb (by simp; omega) (blk_under X5.out))
 have B6 := hide (B5.out.trans ((show Below w5.heap.size w5 _ from by (repeat (first | (with_reducible first | exact Below.refl _ _ | assumption | refine Below.drew ?_) | ((with_reducible first | refine Below.alloc ?_ ?_ _ | refine Below.setCell ?_ ?_ _); rotate_left; (first | omega | (simp <;> omega)))))).trans (hb.mono (by simp))|>.mono B5.out.size))
 have M6 := hide (M5.out.below ((show Below w5.heap.size w5 _ from by (repeat (first | (with_reducible first | exact Below.refl _ _ | assumption | refine Below.drew ?_) | ((with_reducible first | refine Below.alloc ?_ ?_ _ | refine Below.setCell ?_ ?_ _); rotate_left; (first | omega | (simp <;> omega)))))).trans (hb.mono (by simp))))
 have HJ6 := hide (And.intro hJ (And.intro hSe (And.intro hA6 hL6)))
 have z6 := hb.size
 simp at z6
 obtain ⟨B', hB'⟩ : ∃ B', B' = B.put A c e' := ⟨_, rfl⟩
 have jn0 : B.jn = 0 := by rw [HE.out]; rfl
 have HB' := hide (show BkOK B' from hB' ▸ HB.out.put (by omega) A c e')
 have HC' := hide (show B.C.setIfInBounds 19 (.slice A (B.jn + 1) c) = B'.C from by rw [hB']; rfl)
 have HE' := hide hB'
 rw [HC'.out]
 clear hJ hSe hA6 hL6 hb hB'
 go_wp2_with ((with_reducible refine wpList_store_newrow2 rfl 33 (.tmp 1) (.tmp 11) rfl rfl w1.heap.size B'.C rfl rfl 33 B.C X6.out (HSZ.out _ HB'.out.bks.size) (by rw [HB.out.bks.size, HB'.out.bks.size]) HB'.out.ones ?_); intro w7 hb7 hs7 hx7 hk7; refine Hid.out ?_)
 refine Lib.hid ?_
 have HJ7 := hide (show Jrn w7 A 1 (putE B.E 0 e') from by
  have h := HJ6.out.1
  rw [jn0] at h
  refine jrn_keep h (by rw [hs7]; exact Nat.le_refl _) (fun b o q e => hk7 b (by have := HJ6.out.2.2.1 b o q e; simp at this; omega)) (fun k hk b o q e => hk7 b ?_)
  obtain rfl : k = 0 := by omega
  have e0 : putE B.E 0 e' 0 = e' := if_neg (Nat.lt_irrefl 0)
  rw [e0] at e
  have := HJ6.out.2.2.2 b o q e
  simp at this
  omega)
 have HSU := hide (show sumE (putE B.E 0 e') 1000 (fun _ => true) 1 = 100000 from lv_sum B.E w5.heap.size e' (by have h := HJ6.out.2.1; rw [jn0] at h; exact h))
 have X7 := hide hx7
 have c19 : w7.cell? ⟨w1.heap.size, 19, none⟩ = some (.slice A 1 c) := (cell_of_cells hx7 19).trans (by rw [← HC'.out, jn0, Array.getElem?_setIfInBounds_self_of_lt (by rw [HB.out.bks.size]; decide)])
 have hb7' : Below w1.heap.size w6 w7 := hb7
 have B7 := hide (show Below w.heap.size w w7 from B6.out.trans (hb7.mono z1))
 have M7 := hide (show LvM w7 cu ca ch pr ac ti s1 s2 from by
  have l1 := HM.out
  have h := M6.out
  exact ⟨(hk7 _ (by have := heap_lt l1.cu; omega)).trans h.cu, (hk7 _ (by have := heap_lt l1.ch; omega)).trans h.ch, (hk7 _ (by have := heap_lt l1.pr; omega)).trans h.pr, (hk7 _ (by have := heap_lt l1.ac; omega)).trans h.ac, (hk7 _ (by have := heap_lt l1.ti; omega)).trans h.ti⟩)
 have HOF := hide (fun W h => by have t := of_any A 1 c (putE B.E 0 e') 1000 (by decide) W h; rw [HSU.out] at t; exact t)
 have s7 : w1.heap.size < w7.heap.size := heap_lt hx7
 clear hb7 hs7 hx7 hk7 hb7'
 go_wp2_with fail
 refine (HOF.out _ HJ7.out).mono ?_
 rintro r w8 ⟨rfl, hb⟩
 have B8 := hide (B7.out.trans (hb.mono B7.out.size))
 have X8 := hide (blk_below hb s7 X7.out)
 have HBI := hide (show BkIn w8 B' from by
  have e : B' = (lvB cu ca ch pr ac ti s1 s2).put A c e' := by rw [HE'.out, HE.out]
  have m := lvB_in (M7.out.below hb)
  have j := HJ7.out.below hb
  rw [e]
  refine ⟨m.acc, ?_, m.pro⟩
  show Jrn w8 A ((lvB cu ca ch pr ac ti s1 s2).jn + 1) (putE (lvB cu ca ch pr ac ti s1 s2).E (lvB cu ca ch pr ac ti s1 s2).jn e')
  rw [HE.out] at j
  exact j)
 have HSF := hide (fun W h => by
  have e : B' = (lvB cu ca ch pr ac ti s1 s2).put A c e' := by rw [HE'.out, HE.out]
  exact safe_yes B' HB'.out 1000 9678 0 500 (by rw [e]; rfl) (by rw [e]; show (if hasA (lvA s1 s2) 1000 2 = true then bstP (fun _ => lvP ti) xGiro 9678 1 else none) = some 0; rw [lv_bst]; rfl) (by rw [e]; exact Nat.one_pos) (by rw [e]; rfl) (-500) 100000 (by rw [e]; show wrap64 (-(wrap64 (500 + 0))) = -500; simp [wrap64]) (by rw [e]; have h := HSU.out; rw [HE.out] at h; exact h) (by decide) W h)
 clear hb
 go_wp2_with (first
  | (with_reducible refine wpList_load_row rfl 33 (.tmp 1) rfl w1.heap.size rfl 33 B'.C (0, 0) _ X8.out Tryz.underlying33 rfl (HSZ.out _ HB'.out.bks.size) ?_)
  | ((with_reducible refine wpList_load_rowH ?_ 33 (.tmp 1) rfl w1.heap.size rfl 33 B'.C (0, 0) _ X8.out Tryz.underlying33 rfl (HSZ.out _ HB'.out.bks.size) ?_); (focus rfl)))
 refine (HSF.out _ HBI.out).mono ?_
 rintro r w9 ⟨rfl, hb⟩
 have B9 := hide (B8.out.trans (hb.mono B8.out.size))
 clear hb
 go_wp2_with fail
 go_ret
 exact ⟨rfl, B9.out⟩
end Go.Proofs.YtpghciiifnjimaaGreatDoor
