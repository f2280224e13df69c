/-
  DERIVED. GIVEN WITH THE SEED: THE CARDS: each row of YtdjhkhadjmndoaaGreatDoorRows.lean that lists a variable, with what it lists TIED to the program's text (the seventh form; the later family's looks); each row that meets fmt, with fmt's text TOLD by the authors' own Lean function (tested against real Go, not proved from fmt's source: count such statements apart). THE CARD IS WHAT COUNTS. Prove the row's statement (the work); the ties are given (YtdjhkhadjmndoaaGreatDoorTie.lean); close each card by the builder's one call (the guide's Derived/Test/ToyasCard.lean, 'card_holds'). Laid BY PROGRAM, IN A SANDBOX (cutbox-door.mjs). By AI agents, Wed Nov 11 2026. No macro, syntax, notation, axiom, sorry.
-/
import Derived.Test.YtdjhkhadjmndoaaGreatDoorRows
import GoSem.ClaimSeven
namespace Go.Proofs.YtdjhkhadjmndoaaGreatDoor
namespace Rows

/-- THE TIED CARD OF 'corebanklaw24.AccountOpens'. -/
def accountOpensCard : Claim7 := { stood := { row := accountOpensRow, standIns := [], harness := (true, "59a7df3b5fa457c764a6716f5c3b3256822ce87bec66cdb634579a39cfd77b0d"), looks := false }, kinds := [], alts := [], laidByText := true, laidKinds := [.data, .data, .data], laidTests := true, laidLooks := .later }
def AccountOpensCardSaid : Prop := Claim7.holds Tryz.pinned (.plain (OpenSpec.ofChange accountOpensSpec)) accountOpensCard

/-- THE TIED CARD OF 'corebanklaw24.AccountCloses'. -/
def accountClosesCard : Claim7 := { stood := { row := accountClosesRow, standIns := [], harness := (true, "59a7df3b5fa457c764a6716f5c3b3256822ce87bec66cdb634579a39cfd77b0d"), looks := false }, kinds := [], alts := [], laidByText := true, laidKinds := [.data, .data, .data], laidTests := true, laidLooks := .later }
def AccountClosesCardSaid : Prop := Claim7.holds Tryz.pinned (.plain (OpenSpec.ofChange accountClosesSpec)) accountClosesCard

/-- THE SECOND FORM's CARD OF 'corebanklaw24.AccountOpens'. -/
def accountOpensUptoCard : Claim7 := { stood := { row := accountOpensUptoRow, standIns := [], harness := (true, "59a7df3b5fa457c764a6716f5c3b3256822ce87bec66cdb634579a39cfd77b0d"), looks := false }, kinds := [], alts := [], laidByText := true, laidKinds := [.data, .data, .data], laidTests := true, laidLooks := .later }
def AccountOpensUptoCardSaid : Prop := Claim7.holds Tryz.pinned (.plain (OpenSpec.upto accountOpensSpec)) accountOpensUptoCard

/-- THE SECOND FORM's CARD OF 'corebanklaw24.AccountCloses'. -/
def accountClosesUptoCard : Claim7 := { stood := { row := accountClosesUptoRow, standIns := [], harness := (true, "59a7df3b5fa457c764a6716f5c3b3256822ce87bec66cdb634579a39cfd77b0d"), looks := false }, kinds := [], alts := [], laidByText := true, laidKinds := [.data, .data, .data], laidTests := true, laidLooks := .later }
def AccountClosesUptoCardSaid : Prop := Claim7.holds Tryz.pinned (.plain (OpenSpec.upto accountClosesSpec)) accountClosesUptoCard
end Rows
end Go.Proofs.YtdjhkhadjmndoaaGreatDoor
