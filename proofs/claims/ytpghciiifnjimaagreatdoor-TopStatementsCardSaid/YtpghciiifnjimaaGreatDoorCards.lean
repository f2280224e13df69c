/-
  DERIVED. GIVEN WITH THE SEED: THE CARDS: each row of YtpghciiifnjimaaGreatDoorRows.lean that lists a variable, with what it lists TIED to the program's text (the seventh form; the later family's looks); each row that meets fmt, with fmt's text TOLD by the authors' own Lean function (tested against real Go, not proved from fmt's source: count such statements apart). THE CARD IS WHAT COUNTS. Prove the row's statement (the work); the ties are given (YtpghciiifnjimaaGreatDoorTie.lean); close each card by the builder's one call (the guide's Derived/Test/ToyasCard.lean, 'card_holds'). Laid BY PROGRAM, IN A SANDBOX (cutbox-door.mjs). By AI agents, Wed Nov 11 2026. No macro, syntax, notation, axiom, sorry.
-/
import Derived.Test.YtpghciiifnjimaaGreatDoorRows
import GoSem.ClaimSeven
namespace Go.Proofs.YtpghciiifnjimaaGreatDoor
namespace Rows

/-- THE TIED CARD OF 'corebanktop.TopStatements'. -/
def topStatementsCard : Claim7 := { stood := { row := topStatementsRow, standIns := [], harness := (true, "2a89f92f3d2c24d457e38acb343e631a8770a5902e3c2ae4ec815e10bdc5080b"), looks := true }, kinds := [], alts := [], laidByText := true, laidKinds := [.data, .data, .data, .data, .sentinel, .sentinel, .listed, .data], laidTests := true, laidLooks := .later }
def TopStatementsCardSaid : Prop := Claim7.holds Tryz.pinned (.plain (OpenSpec.ofChange topStatementsSpec)) topStatementsCard

/-- THE TIED CARD OF 'corebanktop.TopOrder'. -/
def topOrderCard : Claim7 := { stood := { row := topOrderRow, standIns := [], harness := (true, "2a89f92f3d2c24d457e38acb343e631a8770a5902e3c2ae4ec815e10bdc5080b"), looks := true }, kinds := [], alts := [], laidByText := true, laidKinds := [.data, .data, .data, .data, .sentinel, .sentinel, .listed, .data], laidTests := true, laidLooks := .later }
def TopOrderCardSaid : Prop := Claim7.holds Tryz.pinned (.plain (OpenSpec.ofChange topOrderSpec)) topOrderCard

/-- THE SECOND FORM's CARD OF 'corebanktop.TopStatements'. -/
def topStatementsUptoCard : Claim7 := { stood := { row := topStatementsUptoRow, standIns := [], harness := (true, "2a89f92f3d2c24d457e38acb343e631a8770a5902e3c2ae4ec815e10bdc5080b"), looks := true }, kinds := [], alts := [], laidByText := true, laidKinds := [.data, .data, .data, .data, .sentinel, .sentinel, .listed, .data], laidTests := true, laidLooks := .later }
def TopStatementsUptoCardSaid : Prop := Claim7.holds Tryz.pinned (.plain (OpenSpec.upto topStatementsSpec)) topStatementsUptoCard

/-- THE SECOND FORM's CARD OF 'corebanktop.TopOrder'. -/
def topOrderUptoCard : Claim7 := { stood := { row := topOrderUptoRow, standIns := [], harness := (true, "2a89f92f3d2c24d457e38acb343e631a8770a5902e3c2ae4ec815e10bdc5080b"), looks := true }, kinds := [], alts := [], laidByText := true, laidKinds := [.data, .data, .data, .data, .sentinel, .sentinel, .listed, .data], laidTests := true, laidLooks := .later }
def TopOrderUptoCardSaid : Prop := Claim7.holds Tryz.pinned (.plain (OpenSpec.upto topOrderSpec)) topOrderUptoCard
end Rows
end Go.Proofs.YtpghciiifnjimaaGreatDoor
