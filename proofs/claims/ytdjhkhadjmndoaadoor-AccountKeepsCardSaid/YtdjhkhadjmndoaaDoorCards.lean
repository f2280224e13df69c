/-
  DERIVED. GIVEN WITH THE SEED: THE CARDS: each row of YtdjhkhadjmndoaaDoorRows.lean that lists a variable, with what it lists TIED to the program's text (the seventh form; the later family's looks); each row that meets fmt, with fmt's text TOLD by the authors' own Lean function (tested against real Go, not proved from fmt's source: count such statements apart). THE CARD IS WHAT COUNTS. Prove the row's statement (the work); the ties are given (YtdjhkhadjmndoaaDoorTie.lean); close each card by the builder's one call (the guide's Derived/Test/ToyasCard.lean, 'card_holds'). Laid BY PROGRAM, IN A SANDBOX (cutbox-door.mjs). By AI agents, Wed Nov 11 2026. No macro, syntax, notation, axiom, sorry.
-/
import Derived.Test.YtdjhkhadjmndoaaDoorRows
import GoSem.ClaimSeven
namespace Go.Proofs.YtdjhkhadjmndoaaDoor
namespace Rows

/-- THE TIED CARD OF 'corebanklaw24.AccountNumbers'. -/
def accountNumbersCard : Claim7 := { stood := { row := accountNumbersRow, standIns := [], harness := (true, "134c6cc273240c10a65a9b8d5c7d374f7037780a3fe322358c28e9b60bd24565"), looks := false }, kinds := [], alts := [], laidByText := true, laidKinds := [.data, .data, .data], laidTests := true, laidLooks := .later }
def AccountNumbersCardSaid : Prop := Claim7.holds Tryd.pinned (.plain (OpenSpec.ofChange accountNumbersSpec)) accountNumbersCard

/-- THE TIED CARD OF 'corebanklaw24.AccountIds'. -/
def accountIdsCard : Claim7 := { stood := { row := accountIdsRow, standIns := [], harness := (true, "134c6cc273240c10a65a9b8d5c7d374f7037780a3fe322358c28e9b60bd24565"), looks := false }, kinds := [], alts := [], laidByText := true, laidKinds := [.data, .data, .data], laidTests := true, laidLooks := .later }
def AccountIdsCardSaid : Prop := Claim7.holds Tryd.pinned (.plain (OpenSpec.ofChange accountIdsSpec)) accountIdsCard

/-- THE TIED CARD OF 'corebanklaw24.AccountFinds'. -/
def accountFindsCard : Claim7 := { stood := { row := accountFindsRow, standIns := [], harness := (true, "134c6cc273240c10a65a9b8d5c7d374f7037780a3fe322358c28e9b60bd24565"), looks := false }, kinds := [], alts := [], laidByText := true, laidKinds := [.data, .data, .data], laidTests := true, laidLooks := .later }
def AccountFindsCardSaid : Prop := Claim7.holds Tryd.pinned (.plain (OpenSpec.ofChange accountFindsSpec)) accountFindsCard

/-- THE TIED CARD OF 'corebanklaw24.AccountChecks'. -/
def accountChecksCard : Claim7 := { stood := { row := accountChecksRow, standIns := [], harness := (true, "134c6cc273240c10a65a9b8d5c7d374f7037780a3fe322358c28e9b60bd24565"), looks := false }, kinds := [], alts := [], laidByText := true, laidKinds := [.data, .data, .data], laidTests := true, laidLooks := .later }
def AccountChecksCardSaid : Prop := Claim7.holds Tryd.pinned (.plain (OpenSpec.ofChange accountChecksSpec)) accountChecksCard

/-- THE TIED CARD OF 'corebanklaw24.AccountKeeps'. -/
def accountKeepsCard : Claim7 := { stood := { row := accountKeepsRow, standIns := [], harness := (true, "134c6cc273240c10a65a9b8d5c7d374f7037780a3fe322358c28e9b60bd24565"), looks := false }, kinds := [], alts := [], laidByText := true, laidKinds := [.data, .data, .data], laidTests := true, laidLooks := .later }
def AccountKeepsCardSaid : Prop := Claim7.holds Tryd.pinned (.plain (OpenSpec.ofChange accountKeepsSpec)) accountKeepsCard

/-- THE SECOND FORM's CARD OF 'corebanklaw24.AccountNumbers'. -/
def accountNumbersUptoCard : Claim7 := { stood := { row := accountNumbersUptoRow, standIns := [], harness := (true, "134c6cc273240c10a65a9b8d5c7d374f7037780a3fe322358c28e9b60bd24565"), looks := false }, kinds := [], alts := [], laidByText := true, laidKinds := [.data, .data, .data], laidTests := true, laidLooks := .later }
def AccountNumbersUptoCardSaid : Prop := Claim7.holds Tryd.pinned (.plain (OpenSpec.upto accountNumbersSpec)) accountNumbersUptoCard

/-- THE SECOND FORM's CARD OF 'corebanklaw24.AccountIds'. -/
def accountIdsUptoCard : Claim7 := { stood := { row := accountIdsUptoRow, standIns := [], harness := (true, "134c6cc273240c10a65a9b8d5c7d374f7037780a3fe322358c28e9b60bd24565"), looks := false }, kinds := [], alts := [], laidByText := true, laidKinds := [.data, .data, .data], laidTests := true, laidLooks := .later }
def AccountIdsUptoCardSaid : Prop := Claim7.holds Tryd.pinned (.plain (OpenSpec.upto accountIdsSpec)) accountIdsUptoCard

/-- THE SECOND FORM's CARD OF 'corebanklaw24.AccountFinds'. -/
def accountFindsUptoCard : Claim7 := { stood := { row := accountFindsUptoRow, standIns := [], harness := (true, "134c6cc273240c10a65a9b8d5c7d374f7037780a3fe322358c28e9b60bd24565"), looks := false }, kinds := [], alts := [], laidByText := true, laidKinds := [.data, .data, .data], laidTests := true, laidLooks := .later }
def AccountFindsUptoCardSaid : Prop := Claim7.holds Tryd.pinned (.plain (OpenSpec.upto accountFindsSpec)) accountFindsUptoCard

/-- THE SECOND FORM's CARD OF 'corebanklaw24.AccountChecks'. -/
def accountChecksUptoCard : Claim7 := { stood := { row := accountChecksUptoRow, standIns := [], harness := (true, "134c6cc273240c10a65a9b8d5c7d374f7037780a3fe322358c28e9b60bd24565"), looks := false }, kinds := [], alts := [], laidByText := true, laidKinds := [.data, .data, .data], laidTests := true, laidLooks := .later }
def AccountChecksUptoCardSaid : Prop := Claim7.holds Tryd.pinned (.plain (OpenSpec.upto accountChecksSpec)) accountChecksUptoCard

/-- THE SECOND FORM's CARD OF 'corebanklaw24.AccountKeeps'. -/
def accountKeepsUptoCard : Claim7 := { stood := { row := accountKeepsUptoRow, standIns := [], harness := (true, "134c6cc273240c10a65a9b8d5c7d374f7037780a3fe322358c28e9b60bd24565"), looks := false }, kinds := [], alts := [], laidByText := true, laidKinds := [.data, .data, .data], laidTests := true, laidLooks := .later }
def AccountKeepsUptoCardSaid : Prop := Claim7.holds Tryd.pinned (.plain (OpenSpec.upto accountKeepsSpec)) accountKeepsUptoCard
end Rows
end Go.Proofs.YtdjhkhadjmndoaaDoor
