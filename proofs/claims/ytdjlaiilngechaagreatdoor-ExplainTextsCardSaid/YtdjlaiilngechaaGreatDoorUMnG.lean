/- Texts laid together: MnG ExI. -/
import Derived.Test.YtdjlaiilngechaaGreatDoorUDfE
import Derived.Test.YtdjlaiilngechaaGreatDoorUNuM
import Derived.Test.YtdjlaiilngechaaGreatDoorUNum
import Derived.Lib.ItoaLen
import Derived.Lib.ItoaMem
namespace Go.Proofs.YtdjlaiilngechaaGreatDoor
set_option maxRecDepth 4000
set_option linter.unusedSimpArgs false
set_option linter.unusedVariables false
open Go.RowKit
set_option maxRecDepth 4000 in
set_option maxHeartbeats 2000000 in
theorem rmformat_any (n d : Int) (w : World) :
    Calls Tryz.prog 71 #[.int .i64 n, .int .i64 d] w fun e w' => e = .returned (.tuple #[.string ⟨(amtL n d).toArray⟩, .int .i64 (amtE n d)]) ∧ Below w.heap.size w w' := by
  cases h1 : vmB n with
  | false =>
    have H0 := hide (amt_no (show mnB n d = false by rw [mnB_eq, h1]; rfl))
    have H1 := hide h1
    clear h1
    go_enter Tryz.func71, Tryz.ntmps71
    go_wp2_with fail
    refine (rmvalid_any n _).mono ?_
    rintro e w1 ⟨rfl, rfl⟩
    rw [H1.out]
    go_wp2_with fail
    refine bodyPost_ret (by simp [results, Tryz.results71, go_sem, *] <;> rfl) rfl ⟨?_, ?_⟩
    · rw [H0.out.1, H0.out.2]
    · (repeat (first | (with_reducible first | exact Below.refl _ _ | assumption | refine Below.drew ?_) | ((with_reducible first | refine Below.alloc ?_ ?_ _ | refine Below.setCell ?_ ?_ _); rotate_left; (first | omega | (simp <;> omega)))))
  | true =>
    by_cases d0 : d < 0
    · have H0 := hide (amt_no (show mnB n d = false by unfold mnB; simp; omega))
      have H1 := hide h1
      clear h1
      go_enter Tryz.func71, Tryz.ntmps71
      go_wp2_with fail
      refine (rmvalid_any n _).mono ?_
      rintro e w1 ⟨rfl, rfl⟩
      rw [H1.out]
      go_wp2_with fail
      refine bodyPost_ret (by simp [results, Tryz.results71, go_sem, *] <;> rfl) rfl ⟨?_, ?_⟩
      · rw [H0.out.1, H0.out.2]
      · (repeat (first | (with_reducible first | exact Below.refl _ _ | assumption | refine Below.drew ?_) | ((with_reducible first | refine Below.alloc ?_ ?_ _ | refine Below.setCell ?_ ?_ _); rotate_left; (first | omega | (simp <;> omega)))))
    · have d0' := Int.not_lt.1 d0
      clear d0
      by_cases d4 : d > 4
      · have d4' : 4 < d := d4
        clear d4
        have H0 := hide (amt_no (show mnB n d = false by unfold mnB; simp; omega))
        have H1 := hide h1
        clear h1
        go_enter Tryz.func71, Tryz.ntmps71
        go_wp2_with fail
        refine (rmvalid_any n _).mono ?_
        rintro e w1 ⟨rfl, rfl⟩
        rw [H1.out]
        go_wp2_with fail
        refine bodyPost_ret (by simp [results, Tryz.results71, go_sem, *] <;> rfl) rfl ⟨?_, ?_⟩
        · rw [H0.out.1, H0.out.2]
        · (repeat (first | (with_reducible first | exact Below.refl _ _ | assumption | refine Below.drew ?_) | ((with_reducible first | refine Below.alloc ?_ ?_ _ | refine Below.setCell ?_ ?_ _); rotate_left; (first | omega | (simp <;> omega)))))
      · have d4' := Int.not_lt.1 d4
        clear d4
        have H0' := hide (amt_yes (show mnB n d = true by rw [mnB_eq, h1, plB_iff.2 ⟨d0', d4'⟩]; rfl))
        have HM := hide (vmB_iff.1 h1)
        have H1 := hide h1
        clear h1
        obtain ⟨D, rfl⟩ : ∃ D : Nat, d = D := ⟨d.toNat, by omega⟩
        have hD : D ≤ 4 := by omega
        have H0 := hide (show amtL n D = mnL n D ∧ amtE n D = 0 by have := H0'.out; rw [this.1, this.2]; exact ⟨rfl, rfl⟩)
        clear H0'
        clear d0' d4'
        by_cases hs : n < 0
        · obtain ⟨a, rfl⟩ : ∃ a : Nat, n = -(a : Int) := ⟨n.natAbs, by omega⟩
          have ha : a ≤ 1000000000000 := by have := HM.out; omega
          have hs2 : -(a : Int) < 0 := hs
          have hs3 : (0 : Int) < a := by omega
          have hs4 : - -(a : Int) = a := by omega
          clear hs
          have HL := hide (mnL_neg (a := a) (D := D) (by omega))
          go_enter Tryz.func71, Tryz.ntmps71
          go_wp2_with fail
          refine (rmvalid_any _ _).mono ?_
          rintro e w1 ⟨rfl, rfl⟩
          rw [H1.out]
          go_wp2_with fail
          refine (power_any D hD _).mono ?_
          rintro e w1 ⟨rfl, rfl⟩
          obtain ⟨p, hp⟩ : ∃ p, p = 10 ^ D := ⟨_, rfl⟩
          have hp0 : 0 < p := by rw [hp]; exact Nat.pow_pos (by decide)
          have hp4 : p ≤ 10000 := by rw [hp]; exact pow_le4 hD
          have HP := hide hp
          rw [← hp]
          clear hp
          have hq1 : a / p ≤ a := Nat.div_le_self _ _
          have hq2 : a % p < p := Nat.mod_lt _ hp0
          by_cases hz : D = 0
          · have h0 : ((D : Int) == 0) = true := by rw [hz]; rfl
            have HR := hide (show (⟨#[45]⟩ : ByteArray) ++ (⟨(Lib.decDigits a).toArray⟩ : ByteArray) = ⟨([45] ++ (wholeL a D ++ (if D = 0 then [] else 46 :: dgs a D))).toArray⟩ by unfold wholeL; rw [hz]; simp; exact bcat [45] _)
            clear hz
            go_wp2_with fail
            refine (rdigits_any a (by omega) _).mono ?_
            rintro e w2 ⟨rfl, rfl⟩
            have hl := Lib.decDigits_length a
            have hl2 := Lib.nDigits_le20 a (by omega)
            go_wp2_with fail
            refine bodyPost_ret (by simp [results, Tryz.results71, go_sem, *] <;> rfl) rfl ⟨?_, ?_⟩
            · rw [H0.out.1, H0.out.2, HL.out, ← HR.out]
            · (repeat (first | (with_reducible first | exact Below.refl _ _ | assumption | refine Below.drew ?_) | ((with_reducible first | refine Below.alloc ?_ ?_ _ | refine Below.setCell ?_ ?_ _); rotate_left; (first | omega | (simp <;> omega)))))
          · have h0 : ((D : Int) == 0) = false := by simpa using hz
            have HL := hide (HL.out.trans (by rw [if_neg hz]))
            clear hz
            obtain ⟨u, hu⟩ : ∃ u, u = a / p := ⟨_, rfl⟩
            obtain ⟨v, hv⟩ : ∃ v, v = a % p := ⟨_, rfl⟩
            have e1 := quo_id hu ha
            have e2 := tmod_id hv
            have hpz : ¬ p = 0 := by omega
            obtain ⟨s, hs⟩ : ∃ s, s = p + v := ⟨_, rfl⟩
            have e3 : (p : Int) + v = (s : Int) := by omega
            have hs2 : s ≤ 20000 := by omega
            have e4 : IntKind.i64.wrap (s : Int) = s := by rw [i64w]; unfold wrap64; omega
            have hv2 : v < p := by omega
            have hu2 : u ≤ a := by omega
            have HR := hide (fin_frac [45] (Lib.decDigits u) (Lib.decDigits s) (dgs a D) _ (by rw [hs, hv, HP.out]; exact frac_drop a D) (Lib.decDigits_length s).symm)
            have HW := hide (show wholeL a D = Lib.decDigits u by unfold wholeL; rw [hu, HP.out])
            clear hu hv hs hq1 hq2
            have hl := Lib.decDigits_length u
            have hl2 := Lib.nDigits_le20 u (by omega)
            have hl3 := Lib.decDigits_length s
            have hl4 := Lib.nDigits_le20 s (by omega)
            have hl5 := Lib.nDigits_pos s
            have hl6 : (1 : Int) ≤ (Lib.nDigits s : Int) := by omega
            have hs0 : ¬ 9223372036854775807 < 1 + Lib.nDigits u := by omega
            have hs1 : ¬ 9223372036854775807 < 1 + Lib.nDigits u + 1 := by omega
            have hs2 : ¬ 9223372036854775807 < 1 + Lib.nDigits u + 1 + (Lib.nDigits s - 1) := by omega
            go_wp2_with fail
            refine ord_start (SB (w.heap.size) [] _) 17 (preB 0 17) (by kernel_rfl) (by kernel_rfl) (by kernel_rfl) SB.refl.drew (fun hHeld => ?_)
            refine oS (i := 0) (preB 1 16) rfl hHeld ?_
            (try simp only [Act.put, putS])
            refine oS (i := 1) (preB 2 15) rfl hHeld ?_
            (try simp only [Act.put, putS])
            refine oS (i := 2) (preB 3 14) rfl hHeld ?_
            (try simp only [Act.put, putS])
            refine oS (i := 3) (preB 4 13) rfl hHeld ?_
            (try simp only [Act.put, putS])
            refine oS (i := 7) #[true, true, true, true, false, false, false, true, false, false, false, false, false, false, false, false, false] rfl hHeld ?_
            (try simp only [Act.put, putS])
            refine oS (i := 8) #[true, true, true, true, false, false, false, true, true, false, false, false, false, false, false, false, false] rfl hHeld ?_
            (try simp only [Act.put, putS])
            refine oS (i := 9) #[true, true, true, true, false, false, false, true, true, true, false, false, false, false, false, false, false] rfl hHeld ?_
            (try simp only [Act.put, putS])
            refine oS (i := 10) #[true, true, true, true, false, false, false, true, true, true, true, false, false, false, false, false, false] rfl hHeld ?_
            (try simp only [Act.put, putS])
            refine oS (i := 11) #[true, true, true, true, false, false, false, true, true, true, true, true, false, false, false, false, false] rfl hHeld ?_
            (try simp only [Act.put, putS])
            refine wpAnyH_ready (rs := [4]) (by kernel_rfl) (by simp) ?_
            refine ord_run (i := 4) #[true, true, true, true, true, false, false, true, true, true, true, true, false, false, false, false, false] rfl (by kernel_rfl) (by rfl) (fun K hK => ?_) AllReadyH.nil
            go_simp
            go_wp2_with (go_at_call 115; refine (rdigits_any u (by omega) _).mono ?_; rintro e w2 ⟨rfl, rfl⟩)
            refine hK.out _ _ ?_ (fun hHeld => ?_)
            · exact sbT
            clear hK K
            (try simp only [Act.put, putS])
            refine oS (i := 5) #[true, true, true, true, true, true, false, true, true, true, true, true, false, false, false, false, false] rfl hHeld ?_
            (try simp only [Act.put, putS])
            refine oS (i := 6) (preB 12 5) rfl hHeld ?_
            (try simp only [Act.put, putS])
            refine wpAnyH_ready (rs := [12]) (by kernel_rfl) (by simp) ?_
            refine ord_run (i := 12) (preB 13 4) rfl (by kernel_rfl) (by rfl) (fun K hK => ?_) AllReadyH.nil
            go_simp
            go_wp2_with (go_at_call 115; refine (rdigits_any s (by omega) _).mono ?_; rintro e w2 ⟨rfl, rfl⟩)
            refine hK.out _ _ ?_ (fun hHeld => ?_)
            · exact sbT
            clear hK K
            (try simp only [Act.put, putS])
            refine oS (i := 13) (preB 14 3) rfl hHeld ?_
            (try simp only [Act.put, putS])
            refine oS (i := 14) (preB 15 2) rfl hHeld ?_
            (try simp only [Act.put, putS])
            refine oS (i := 15) (preB 16 1) rfl hHeld ?_
            (try simp only [Act.put, putS])
            refine oS (i := 16) (preB 17 0) rfl hHeld ?_
            (try simp only [Act.put, putS])
            refine wpAnyH_done (by kernel_rfl) ?_ _
            go_wp2_with fail; (refine bodyPost_ret (by simp [results, Tryz.results71, go_sem, *] <;> rfl) rfl ⟨?_, ?_⟩); (focus (rw [H0.out.1, H0.out.2, HL.out, HW.out, ← HR.out])); ((repeat (first | (with_reducible first | exact Below.refl _ _ | assumption | refine Below.drew ?_) | ((with_reducible first | refine Below.alloc ?_ ?_ _ | refine Below.setCell ?_ ?_ _); rotate_left; (first | omega | (simp <;> omega))))))
        · obtain ⟨a, rfl⟩ : ∃ a : Nat, n = (a : Int) := ⟨n.natAbs, by omega⟩
          have ha : a ≤ 1000000000000 := by have := HM.out; omega
          have hs2 : ¬ (a : Int) < 0 := by omega
          clear hs
          have HL := hide (mnL_pos a D)
          go_enter Tryz.func71, Tryz.ntmps71
          go_wp2_with fail
          refine (rmvalid_any _ _).mono ?_
          rintro e w1 ⟨rfl, rfl⟩
          rw [H1.out]
          go_wp2_with fail
          refine (power_any D hD _).mono ?_
          rintro e w1 ⟨rfl, rfl⟩
          obtain ⟨p, hp⟩ : ∃ p, p = 10 ^ D := ⟨_, rfl⟩
          have hp0 : 0 < p := by rw [hp]; exact Nat.pow_pos (by decide)
          have hp4 : p ≤ 10000 := by rw [hp]; exact pow_le4 hD
          have HP := hide hp
          rw [← hp]
          clear hp
          have hq1 : a / p ≤ a := Nat.div_le_self _ _
          have hq2 : a % p < p := Nat.mod_lt _ hp0
          by_cases hz : D = 0
          · have h0 : ((D : Int) == 0) = true := by rw [hz]; rfl
            have HR := hide (show (⟨#[]⟩ : ByteArray) ++ (⟨(Lib.decDigits a).toArray⟩ : ByteArray) = ⟨([] ++ (wholeL a D ++ (if D = 0 then [] else 46 :: dgs a D))).toArray⟩ by unfold wholeL; rw [hz]; simp; exact bcat [] _)
            clear hz
            go_wp2_with fail
            refine (rdigits_any a (by omega) _).mono ?_
            rintro e w2 ⟨rfl, rfl⟩
            have hl := Lib.decDigits_length a
            have hl2 := Lib.nDigits_le20 a (by omega)
            go_wp2_with fail
            refine bodyPost_ret (by simp [results, Tryz.results71, go_sem, *] <;> rfl) rfl ⟨?_, ?_⟩
            · rw [H0.out.1, H0.out.2, HL.out, ← HR.out]
            · (repeat (first | (with_reducible first | exact Below.refl _ _ | assumption | refine Below.drew ?_) | ((with_reducible first | refine Below.alloc ?_ ?_ _ | refine Below.setCell ?_ ?_ _); rotate_left; (first | omega | (simp <;> omega)))))
          · have h0 : ((D : Int) == 0) = false := by simpa using hz
            have HL := hide (HL.out.trans (by rw [if_neg hz]))
            clear hz
            obtain ⟨u, hu⟩ : ∃ u, u = a / p := ⟨_, rfl⟩
            obtain ⟨v, hv⟩ : ∃ v, v = a % p := ⟨_, rfl⟩
            have e1 := quo_id hu ha
            have e2 := tmod_id hv
            have hpz : ¬ p = 0 := by omega
            obtain ⟨s, hs⟩ : ∃ s, s = p + v := ⟨_, rfl⟩
            have e3 : (p : Int) + v = (s : Int) := by omega
            have hs2 : s ≤ 20000 := by omega
            have e4 : IntKind.i64.wrap (s : Int) = s := by rw [i64w]; unfold wrap64; omega
            have hv2 : v < p := by omega
            have hu2 : u ≤ a := by omega
            have HR := hide (fin_frac [] (Lib.decDigits u) (Lib.decDigits s) (dgs a D) _ (by rw [hs, hv, HP.out]; exact frac_drop a D) (Lib.decDigits_length s).symm)
            have HW := hide (show wholeL a D = Lib.decDigits u by unfold wholeL; rw [hu, HP.out])
            clear hu hv hs hq1 hq2
            have hl := Lib.decDigits_length u
            have hl2 := Lib.nDigits_le20 u (by omega)
            have hl3 := Lib.decDigits_length s
            have hl4 := Lib.nDigits_le20 s (by omega)
            have hl5 := Lib.nDigits_pos s
            have hl6 : (1 : Int) ≤ (Lib.nDigits s : Int) := by omega
            have hs0 : ¬ 9223372036854775807 < Lib.nDigits u := by omega
            have hs1 : ¬ 9223372036854775807 < Lib.nDigits u + 1 := by omega
            have hs2 : ¬ 9223372036854775807 < Lib.nDigits u + 1 + (Lib.nDigits s - 1) := by omega
            go_wp2_with fail
            refine ord_start (SB (w.heap.size) [] _) 17 (preB 0 17) (by kernel_rfl) (by kernel_rfl) (by kernel_rfl) SB.refl.drew (fun hHeld => ?_)
            refine oS (i := 0) (preB 1 16) rfl hHeld ?_
            (try simp only [Act.put, putS])
            refine oS (i := 1) (preB 2 15) rfl hHeld ?_
            (try simp only [Act.put, putS])
            refine oS (i := 2) (preB 3 14) rfl hHeld ?_
            (try simp only [Act.put, putS])
            refine oS (i := 3) (preB 4 13) rfl hHeld ?_
            (try simp only [Act.put, putS])
            refine oS (i := 7) #[true, true, true, true, false, false, false, true, false, false, false, false, false, false, false, false, false] rfl hHeld ?_
            (try simp only [Act.put, putS])
            refine oS (i := 8) #[true, true, true, true, false, false, false, true, true, false, false, false, false, false, false, false, false] rfl hHeld ?_
            (try simp only [Act.put, putS])
            refine oS (i := 9) #[true, true, true, true, false, false, false, true, true, true, false, false, false, false, false, false, false] rfl hHeld ?_
            (try simp only [Act.put, putS])
            refine oS (i := 10) #[true, true, true, true, false, false, false, true, true, true, true, false, false, false, false, false, false] rfl hHeld ?_
            (try simp only [Act.put, putS])
            refine oS (i := 11) #[true, true, true, true, false, false, false, true, true, true, true, true, false, false, false, false, false] rfl hHeld ?_
            (try simp only [Act.put, putS])
            refine wpAnyH_ready (rs := [4]) (by kernel_rfl) (by simp) ?_
            refine ord_run (i := 4) #[true, true, true, true, true, false, false, true, true, true, true, true, false, false, false, false, false] rfl (by kernel_rfl) (by rfl) (fun K hK => ?_) AllReadyH.nil
            go_simp
            go_wp2_with (go_at_call 115; refine (rdigits_any u (by omega) _).mono ?_; rintro e w2 ⟨rfl, rfl⟩)
            refine hK.out _ _ ?_ (fun hHeld => ?_)
            · exact sbT
            clear hK K
            (try simp only [Act.put, putS])
            refine oS (i := 5) #[true, true, true, true, true, true, false, true, true, true, true, true, false, false, false, false, false] rfl hHeld ?_
            (try simp only [Act.put, putS])
            refine oS (i := 6) (preB 12 5) rfl hHeld ?_
            (try simp only [Act.put, putS])
            refine wpAnyH_ready (rs := [12]) (by kernel_rfl) (by simp) ?_
            refine ord_run (i := 12) (preB 13 4) rfl (by kernel_rfl) (by rfl) (fun K hK => ?_) AllReadyH.nil
            go_simp
            go_wp2_with (go_at_call 115; refine (rdigits_any s (by omega) _).mono ?_; rintro e w2 ⟨rfl, rfl⟩)
            refine hK.out _ _ ?_ (fun hHeld => ?_)
            · exact sbT
            clear hK K
            (try simp only [Act.put, putS])
            refine oS (i := 13) (preB 14 3) rfl hHeld ?_
            (try simp only [Act.put, putS])
            refine oS (i := 14) (preB 15 2) rfl hHeld ?_
            (try simp only [Act.put, putS])
            refine oS (i := 15) (preB 16 1) rfl hHeld ?_
            (try simp only [Act.put, putS])
            refine oS (i := 16) (preB 17 0) rfl hHeld ?_
            (try simp only [Act.put, putS])
            refine wpAnyH_done (by kernel_rfl) ?_ _
            go_wp2_with fail; (refine bodyPost_ret (by simp [results, Tryz.results71, go_sem, *] <;> rfl) rfl ⟨?_, ?_⟩); (focus (rw [H0.out.1, H0.out.2, HL.out, HW.out, ← HR.out])); ((repeat (first | (with_reducible first | exact Below.refl _ _ | assumption | refine Below.drew ?_) | ((with_reducible first | refine Below.alloc ?_ ?_ _ | refine Below.setCell ?_ ?_ _); rotate_left; (first | omega | (simp <;> omega))))))
end Go.Proofs.YtdjlaiilngechaaGreatDoor
namespace Go.Proofs.YtdjlaiilngechaaGreatDoor
set_option maxRecDepth 4000
set_option linter.unusedSimpArgs false
set_option linter.unusedVariables false
open Go.RowKit
def emptyOf : Value → Nat | .string s => if s.size = 0 then 1 else 0 | _ => 0
def NatInv (N : Nat) (w : World) (v0 v3 : Value) (wr : World) : Prop :=
  ∃ (m : Nat) (l : List UInt8), v0 = .int .u64 m ∧ v3 = .string ⟨l.toArray⟩ ∧ m ≤ N ∧ ((l = [] ∧ m = N) ∨ (l ≠ [] ∧ (if m = 0 then l else Lib.decDigits m ++ l) = Lib.decDigits N)) ∧ Below w.heap.size w wr
/-- One round of the reference's loop. -/
theorem nat_step {N m : Nat} {l : List UInt8} (hl : (l = [] ∧ m = N) ∨ (l ≠ [] ∧ 0 < m ∧ (if m = 0 then l else Lib.decDigits m ++ l) = Lib.decDigits N)) :
    (if m / 10 = 0 then UInt8.ofNat (48 + m % 10) :: l else Lib.decDigits (m / 10) ++ (UInt8.ofNat (48 + m % 10) :: l)) = Lib.decDigits N := by
  have key : (if m / 10 = 0 then UInt8.ofNat (48 + m % 10) :: l else Lib.decDigits (m / 10) ++ (UInt8.ofNat (48 + m % 10) :: l)) = Lib.decDigits m ++ l := by
    by_cases h : m < 10
    · rw [if_pos (by omega), Lib.decDigits, dif_pos h, Nat.mod_eq_of_lt h]; rfl
    · rw [if_neg (by omega)]
      conv => rhs; rw [Lib.decDigits, dif_neg h]
      simp
  rw [key]
  rcases hl with ⟨rfl, rfl⟩ | ⟨_, hm, he⟩
  · simp
  · rwa [if_neg (by omega)] at he
theorem nat_len {N m : Nat} {l : List UInt8} (hN : N < 18446744073709551616) (hl : (l = [] ∧ m = N) ∨ (l ≠ [] ∧ (if m = 0 then l else Lib.decDigits m ++ l) = Lib.decDigits N)) : l.length ≤ 20 := by
  have h20 := Lib.nDigits_le20 N (by omega)
  rw [← Lib.decDigits_length] at h20
  rcases hl with ⟨rfl, _⟩ | ⟨_, he⟩
  · simp
  · rw [← he] at h20
    split at h20
    · exact h20
    · rw [List.length_append] at h20; omega
theorem emptyOf_cons (x : UInt8) (l : List UInt8) : emptyOf (.string ⟨(x :: l).toArray⟩) = 0 := by
  unfold emptyOf
  simp [ByteArray.size]
theorem natural_any (N : Nat) (hN : N < 18446744073709551616) (w : World) :
    Calls Tryz.prog 119 #[.int .u64 N] w fun e w' => e = .returned (.string ⟨(Lib.decDigits N).toArray⟩) ∧ Below w.heap.size w w' := by
  go_enter Tryz.func119, Tryz.ntmps119
  go_wp2_with fail
  go_loopw [0, 3] (fun v0 v3 wr => NatInv N w v0 v3 wr) (fun v0 v3 _ => (intOf v0).toNat + emptyOf v3)
  case atStart => exact ⟨N, [], rfl, rfl, Nat.le_refl _, .inl ⟨rfl, rfl⟩, by (repeat (first | (with_reducible first | exact Below.refl _ _ | assumption | refine Below.drew ?_) | ((with_reducible first | refine Below.alloc ?_ ?_ _ | refine Below.setCell ?_ ?_ _); rotate_left; (first | omega | (simp <;> omega)))))⟩
  case round =>
    obtain ⟨m, l, rfl, rfl, hm, hl, hB⟩ := hrel
    have hlen := nat_len hN hl
    have hm10 : m % 10 < 10 := Nat.mod_lt _ (by decide)
    have HD := hide (dig_cons hm10 l)
    have HL := hide hl
    clear hl
    by_cases hl0 : l = []
    · subst hl0
      obtain rfl : m = N := by
        rcases HL.out with ⟨_, h⟩ | ⟨h, _⟩
        · exact h
        · exact absurd rfl h
      have HS := hide (nat_step (N := m) (m := m) (l := []) (.inl ⟨rfl, rfl⟩))
      go_wp2_with fail
      all_goals first
        | (exfalso; omega)
        | (go_roundw
           case rel => exact ⟨m / 10, [UInt8.ofNat (48 + m % 10)], by simp, by rw [HD.out], by omega, .inr ⟨by simp, HS.out⟩, hB⟩
           case measure => rw [HD.out, emptyOf_cons]; show ((m : Int) / 10).toNat + 0 < (m : Int).toNat + 1; omega)
    · have hie : l.isEmpty = false := by simpa using hl0
      by_cases hm0 : 0 < m
      · have HS := hide (nat_step (l := l) (by
          rcases HL.out with h | ⟨h1, h2⟩
          · exact .inl h
          · exact .inr ⟨h1, hm0, h2⟩))
        go_wp2_with fail
        all_goals first
          | (exfalso; omega)
          | (go_roundw
             case rel => exact ⟨m / 10, UInt8.ofNat (48 + m % 10) :: l, by simp, by rw [HD.out], by omega, .inr ⟨by simp, HS.out⟩, hB⟩
             case measure => rw [HD.out, emptyOf_cons]; show ((m : Int) / 10).toNat + 0 < (m : Int).toNat + _; omega)
      · have HE : Hid (l = Lib.decDigits N) := by
          rcases HL.out with ⟨h, _⟩ | ⟨_, h⟩
          · exact absurd h hl0
          · rwa [if_pos (by omega)] at h
        obtain rfl : m = 0 := by omega
        go_wp2_with fail
        go_ret
        exact ⟨by rw [← HE.out]; rfl, hB⟩
theorem minus_cons (l : List UInt8) : (⟨#[45]⟩ : ByteArray) ++ (⟨l.toArray⟩ : ByteArray) = ⟨(45 :: l).toArray⟩ := by
  apply ByteArray.ext
  rw [ByteArray.data_append]
  simp
theorem rint_any (n : Int) (h1 : -9223372036854775808 ≤ n) (h2 : n ≤ 9223372036854775807) (w : World) :
    Calls Tryz.prog 74 #[.int .i64 n] w fun e w' => e = .returned (.string ⟨(Lib.itoa n).toArray⟩) ∧ Below w.heap.size w w' := by
  by_cases h : 0 ≤ n
  · obtain ⟨N, rfl⟩ : ∃ N : Nat, n = N := ⟨n.toNat, by omega⟩
    have HI := hide (Lib.itoa_nonneg N)
    go_enter Tryz.func74, Tryz.ntmps74
    go_wp2_with fail
    refine (natural_any N (by omega) _).mono ?_
    rintro e w1 ⟨rfl, hb⟩
    go_wp2_with fail
    go_ret
    exact ⟨by rw [HI.out]; rfl, hb⟩
  · obtain ⟨N, rfl⟩ : ∃ N : Nat, n = -(N : Int) := ⟨n.natAbs, by omega⟩
    have HI := hide (Lib.itoa_neg N (by omega))
    have HV := hide (show IntKind.u64.wrap (bits BinOp.xor IntKind.u64 IntKind.u64.max (IntKind.u64.wrap (-(N : Int))) + 1) = N from by
      rw [wrapU (-(N : Int)), xor_maxU _ (by omega) (by omega), wrapU]; unfold notU; omega)
    have HM := hide (minus_cons (Lib.decDigits N))
    have h20 := Lib.nDigits_le20 N (by omega)
    rw [← Lib.decDigits_length] at h20
    go_enter Tryz.func74, Tryz.ntmps74
    go_wp2_with fail
    rw [HV.out]
    refine (natural_any N (by omega) _).mono ?_
    rintro e w1 ⟨rfl, hb⟩
    go_wp2_with fail
    all_goals first
      | (exfalso; omega)
      | (go_ret; exact ⟨by rw [HI.out, ← HM.out]; rfl, hb⟩)
end Go.Proofs.YtdjlaiilngechaaGreatDoor
