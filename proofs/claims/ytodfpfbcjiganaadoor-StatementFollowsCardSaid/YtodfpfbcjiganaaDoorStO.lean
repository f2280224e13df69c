/- The example in plain words: what Make, Text, Follows and Check answer there. -/
import Derived.Test.YtodfpfbcjiganaaDoorStF
import Derived.Test.YtodfpfbcjiganaaDoorStI
import Derived.Test.YtodfpfbcjiganaaDoorTxN
namespace Go.Proofs.YtodfpfbcjiganaaDoor
set_option linter.unusedSimpArgs false
set_option linter.unusedVariables false
open Go.RowKit

def smA (_ : Nat) : LAcc := ⟨1000, 0, 0, 0, ⟨#[]⟩, ⟨#[]⟩, ⟨#[]⟩⟩
def eur : ByteArray := ⟨#[69, 85, 82]⟩
def smL1 (k : Nat) : LLeg := if k = 0 then ⟨1, 70, eur⟩ else ⟨1000, -70, eur⟩
def smL2 (k : Nat) : LLeg := if k = 0 then ⟨1000, 20, eur⟩ else ⟨1, -20, eur⟩
def smE (b1 b2 : Nat) (k : Nat) : LEnt := if k = 0 then ⟨1, 5, 5, 0, 0, 0, ⟨#[]⟩, ⟨#[112, 97, 121]⟩, some ⟨b1, 0, none⟩, 2, 2, 0, smL1⟩ else ⟨2, 6, 6, 0, 0, 0, ⟨#[]⟩, ⟨#[114, 101, 110, 116]⟩, some ⟨b2, 0, none⟩, 2, 2, 0, smL2⟩
theorem sm_has : hasA smA 1000 1 = true := rfl
theorem sm_hasnt : hasA smA 1001 1 = false := rfl
def rent : ByteArray := ⟨#[114, 101, 110, 116]⟩
def smS : LStm := ⟨1000, 3, 6, 9, 70, 50, [⟨2, 6, -20, rent⟩]⟩
def smP : LStm := ⟨1000, 2, 0, 5, 0, 70, [⟨1, 5, 70, ⟨#[112, 97, 121]⟩⟩]⟩
theorem sm_mv1 (b1 b2 : Nat) : mvE (smE b1 b2 0) 1000 = 70 ∧ tchE (smE b1 b2 0) 1000 = true := ⟨by kernel_rfl, by kernel_rfl⟩
theorem sm_mv2 (b1 b2 : Nat) : mvE (smE b1 b2 1) 1000 = -20 ∧ tchE (smE b1 b2 1) 1000 = true := ⟨by kernel_rfl, by kernel_rfl⟩
theorem sm_make (b1 b2 : Nat) : mkS (smE b1 b2) 2 true 1000 3 6 9 = smS ∧ mkE true 3 6 9 = 0 := ⟨by kernel_rfl, by kernel_rfl⟩
theorem sm_make2 (b1 b2 : Nat) : mkS (smE b1 b2) 2 true 1000 2 0 5 = smP ∧ mkE true 2 0 5 = 0 := ⟨by kernel_rfl, by kernel_rfl⟩
theorem sm_make3 (b1 b2 : Nat) : mkS (smE b1 b2) 2 false 1001 3 6 9 = zStm ∧ mkE false 3 6 9 = 11 := ⟨by kernel_rfl, by kernel_rfl⟩
theorem sm_chk : chkS 1000 3 6 9 70 50 (atP smS.ls) 1 = 0 := by
  unfold chkS
  rw [if_neg (by decide), if_neg (by decide), if_neg (by decide), if_neg (by decide), if_neg (by decide)]
  exact linE_ok (fun k hk => by obtain rfl : k = 0 := by omega
                                exact ⟨by decide, by decide, by decide⟩) (by kernel_rfl)
theorem sm_fol : fol 1000 2 5 70 1000 3 6 70 = true := by decide
theorem civ6 : CivIs 6 2000 1 7 := by unfold CivIs; decide
theorem civ9 : CivIs 9 2000 1 10 := by unfold CivIs; decide
theorem fmt6 : fmtL 6 = [50, 48, 48, 48, 45, 48, 49, 45, 48, 55] := by
  obtain ⟨e1, e2, e3⟩ := civ_of civ6
  rw [fmt_yes rfl, e1, e2, e3]; rfl
theorem fmt9 : fmtL 9 = [50, 48, 48, 48, 45, 48, 49, 45, 49, 48] := by
  obtain ⟨e1, e2, e3⟩ := civ_of civ9
  rw [fmt_yes rfl, e1, e2, e3]; rfl
def smT : List UInt8 := [115, 116, 97, 116, 101, 109, 101, 110, 116, 32, 51, 32, 97, 99, 99, 111, 117, 110, 116, 32, 49, 48, 48, 48, 10, 50, 48, 48, 48, 45, 48, 49, 45, 48, 55, 32, 116, 111, 32, 50, 48, 48, 48, 45, 48, 49, 45, 49, 48, 10, 111, 112, 101, 110, 105, 110, 103, 32, 48, 46, 55, 48, 10, 50, 48, 48, 48, 45, 48, 49, 45, 48, 55, 32, 45, 48, 46, 50, 48, 32, 114, 101, 110, 116, 10, 99, 108, 111, 115, 105, 110, 103, 32, 48, 46, 53, 48, 10]
theorem itoa3 : Lib.itoa 3 = [51] := by rw [show (3 : Int) = ((3 : Nat) : Int) from rfl, Lib.itoa_nonneg, dec_one (by decide)]; rfl
theorem itoa1000 : Lib.itoa 1000 = [49, 48, 48, 48] := by rw [show (1000 : Int) = ((1000 : Nat) : Int) from rfl, itoa_4 (by decide) (by decide)]; rfl
theorem whole0 {a : Nat} (h : a < 100) : wholeL a 2 = [48] := by
  unfold wholeL
  rw [show a / 10 ^ 2 = 0 from Nat.div_eq_of_lt h, dec_one (by decide)]; rfl
theorem amt70 : amtL 70 2 = [48, 46, 55, 48] := by
  rw [(amt_yes (show mnB 70 2 = true by decide)).1]
  unfold mnL
  rw [show (70 : Int).natAbs = 70 from rfl, show (2 : Int).toNat = 2 from rfl, whole0 (by decide)]; rfl
theorem amt50 : amtL 50 2 = [48, 46, 53, 48] := by
  rw [(amt_yes (show mnB 50 2 = true by decide)).1]
  unfold mnL
  rw [show (50 : Int).natAbs = 50 from rfl, show (2 : Int).toNat = 2 from rfl, whole0 (by decide)]; rfl
theorem amt20 : amtL (-20) 2 = [45, 48, 46, 50, 48] := by
  rw [(amt_yes (show mnB (-20) 2 = true by decide)).1]
  unfold mnL
  rw [show (-20 : Int).natAbs = 20 from rfl, show (2 : Int).toNat = 2 from rfl, whole0 (by decide)]; rfl
theorem sm_text : txtE 1000 3 6 9 70 50 (atP smS.ls) 1 2 = 0 ∧ txtR 1000 3 6 9 70 50 (atP smS.ls) 1 2 = smT := by
  have e : txtE 1000 3 6 9 70 50 (atP smS.ls) 1 2 = 0 := by
    unfold txtE; rw [if_pos sm_chk]; rfl
  refine ⟨e, ?_⟩
  unfold txtR
  rw [if_pos e]
  unfold txtL headL
  rw [show linesL (atP smS.ls) 2 1 = [] ++ wJ [fmtL 6, amtL (-20) 2, rent.data.toList] from rfl, itoa3, itoa1000, fmt6, fmt9, amt70, amt50, amt20, wJ_2, wJ_2, wJ_3, wJ_3, wJ_4]
  rfl
end Go.Proofs.YtodfpfbcjiganaaDoor
