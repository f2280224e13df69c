/-
  DERIVED. GIVEN WITH THE SEED: THE CARDS: each row of YtdjlaiilngechaaGreatDoorRows.lean that lists a variable, with what it lists TIED to the program's text (the seventh form; the later family's looks); each row that meets fmt, with fmt's text TOLD by the authors' own Lean function (tested against real Go, not proved from fmt's source: count such statements apart). THE CARD IS WHAT COUNTS. Prove the row's statement (the work); the ties are given (YtdjlaiilngechaaGreatDoorTie.lean); close each card by the builder's one call (the guide's Derived/Test/ToyasCard.lean, 'card_holds'). Laid BY PROGRAM, IN A SANDBOX (cutbox-door.mjs). By AI agents, Wed Nov 11 2026. No macro, syntax, notation, axiom, sorry.
-/
import Derived.Test.YtdjlaiilngechaaGreatDoorRows
import GoSem.ClaimSeven
namespace Go.Proofs.YtdjlaiilngechaaGreatDoor
namespace Rows

/-- THE TIED CARD OF 'corebanklaw31.ExplainLines'. -/
def explainLinesCard : Claim7 := { stood := { row := explainLinesRow, standIns := [], harness := (true, "926f744f0c5ddb17b9a95012018a1e14408ddbaca4b821c0a596acc526655b8b"), looks := false }, kinds := [], alts := [], laidByText := true, laidKinds := [.data, .data, .data, .data], laidTests := true, laidLooks := .later }
def ExplainLinesCardSaid : Prop := Claim7.holds Tryz.pinned (.plain (OpenSpec.ofChange explainLinesSpec)) explainLinesCard

/-- THE TIED CARD OF 'corebanklaw31.ExplainTexts'. -/
def explainTextsCard : Claim7 := { stood := { row := explainTextsRow, standIns := [], harness := (true, "926f744f0c5ddb17b9a95012018a1e14408ddbaca4b821c0a596acc526655b8b"), looks := false }, kinds := [], alts := [], laidByText := true, laidKinds := [.data, .data, .data, .data], laidTests := true, laidLooks := .later }
def ExplainTextsCardSaid : Prop := Claim7.holds Tryz.pinned (.plain (OpenSpec.ofChange explainTextsSpec)) explainTextsCard

/-- THE TIED CARD OF 'corebanklaw31.ExplainCovers'. -/
def explainCoversCard : Claim7 := { stood := { row := explainCoversRow, standIns := [], harness := (true, "926f744f0c5ddb17b9a95012018a1e14408ddbaca4b821c0a596acc526655b8b"), looks := false }, kinds := [], alts := [], laidByText := true, laidKinds := [.data, .data, .data, .data], laidTests := true, laidLooks := .later }
def ExplainCoversCardSaid : Prop := Claim7.holds Tryz.pinned (.plain (OpenSpec.ofChange explainCoversSpec)) explainCoversCard

/-- THE TIED CARD OF 'corebanklaw31.ExplainSums'. -/
def explainSumsCard : Claim7 := { stood := { row := explainSumsRow, standIns := [], harness := (true, "926f744f0c5ddb17b9a95012018a1e14408ddbaca4b821c0a596acc526655b8b"), looks := false }, kinds := [], alts := [], laidByText := true, laidKinds := [.data, .data, .data, .data], laidTests := true, laidLooks := .later }
def ExplainSumsCardSaid : Prop := Claim7.holds Tryz.pinned (.plain (OpenSpec.ofChange explainSumsSpec)) explainSumsCard

/-- THE SECOND FORM's CARD OF 'corebanklaw31.ExplainLines'. -/
def explainLinesUptoCard : Claim7 := { stood := { row := explainLinesUptoRow, standIns := [], harness := (true, "926f744f0c5ddb17b9a95012018a1e14408ddbaca4b821c0a596acc526655b8b"), looks := false }, kinds := [], alts := [], laidByText := true, laidKinds := [.data, .data, .data, .data], laidTests := true, laidLooks := .later }
def ExplainLinesUptoCardSaid : Prop := Claim7.holds Tryz.pinned (.plain (OpenSpec.upto explainLinesSpec)) explainLinesUptoCard

/-- THE SECOND FORM's CARD OF 'corebanklaw31.ExplainTexts'. -/
def explainTextsUptoCard : Claim7 := { stood := { row := explainTextsUptoRow, standIns := [], harness := (true, "926f744f0c5ddb17b9a95012018a1e14408ddbaca4b821c0a596acc526655b8b"), looks := false }, kinds := [], alts := [], laidByText := true, laidKinds := [.data, .data, .data, .data], laidTests := true, laidLooks := .later }
def ExplainTextsUptoCardSaid : Prop := Claim7.holds Tryz.pinned (.plain (OpenSpec.upto explainTextsSpec)) explainTextsUptoCard

/-- THE SECOND FORM's CARD OF 'corebanklaw31.ExplainCovers'. -/
def explainCoversUptoCard : Claim7 := { stood := { row := explainCoversUptoRow, standIns := [], harness := (true, "926f744f0c5ddb17b9a95012018a1e14408ddbaca4b821c0a596acc526655b8b"), looks := false }, kinds := [], alts := [], laidByText := true, laidKinds := [.data, .data, .data, .data], laidTests := true, laidLooks := .later }
def ExplainCoversUptoCardSaid : Prop := Claim7.holds Tryz.pinned (.plain (OpenSpec.upto explainCoversSpec)) explainCoversUptoCard

/-- THE SECOND FORM's CARD OF 'corebanklaw31.ExplainSums'. -/
def explainSumsUptoCard : Claim7 := { stood := { row := explainSumsUptoRow, standIns := [], harness := (true, "926f744f0c5ddb17b9a95012018a1e14408ddbaca4b821c0a596acc526655b8b"), looks := false }, kinds := [], alts := [], laidByText := true, laidKinds := [.data, .data, .data, .data], laidTests := true, laidLooks := .later }
def ExplainSumsUptoCardSaid : Prop := Claim7.holds Tryz.pinned (.plain (OpenSpec.upto explainSumsSpec)) explainSumsUptoCard
end Rows
end Go.Proofs.YtdjlaiilngechaaGreatDoor
