/-
  DERIVED. GIVEN WITH THE SEED: THE CARDS: each row of YtodfpfbcjiganaaDoorRows.lean that lists a variable, with what it lists TIED to the program's text (the seventh form; the later family's looks); each row that meets fmt, with fmt's text TOLD by the authors' own Lean function (tested against real Go, not proved from fmt's source: count such statements apart). THE CARD IS WHAT COUNTS. Prove the row's statement (the work); the ties are given (YtodfpfbcjiganaaDoorTie.lean); close each card by the builder's one call (the guide's Derived/Test/ToyasCard.lean, 'card_holds'). Laid BY PROGRAM, IN A SANDBOX (cutbox-door.mjs). By AI agents, Wed Nov 11 2026. No macro, syntax, notation, axiom, sorry.
-/
import Derived.Test.YtodfpfbcjiganaaDoorRows
import GoSem.ClaimSeven
namespace Go.Proofs.YtodfpfbcjiganaaDoor
namespace Rows

/-- THE TIED CARD OF 'corebanklaw45.StatementMakes'. -/
def statementMakesCard : Claim7 := { stood := { row := statementMakesRow, standIns := [], harness := (true, "6860be40488e7431315ed7a2ece38f650bf8998d9cdfe7a8d10da076b6aa1880"), looks := false }, kinds := [], alts := [], laidByText := true, laidKinds := [.data, .data, .data], laidTests := true, laidLooks := .later }
def StatementMakesCardSaid : Prop := Claim7.holds Tryd.pinned (.plain (OpenSpec.ofChange statementMakesSpec)) statementMakesCard

/-- THE TIED CARD OF 'corebanklaw45.StatementChecks'. -/
def statementChecksCard : Claim7 := { stood := { row := statementChecksRow, standIns := [], harness := (true, "6860be40488e7431315ed7a2ece38f650bf8998d9cdfe7a8d10da076b6aa1880"), looks := false }, kinds := [], alts := [], laidByText := true, laidKinds := [.data, .data, .data], laidTests := true, laidLooks := .later }
def StatementChecksCardSaid : Prop := Claim7.holds Tryd.pinned (.plain (OpenSpec.ofChange statementChecksSpec)) statementChecksCard

/-- THE TIED CARD OF 'corebanklaw45.StatementTexts'. -/
def statementTextsCard : Claim7 := { stood := { row := statementTextsRow, standIns := [], harness := (true, "6860be40488e7431315ed7a2ece38f650bf8998d9cdfe7a8d10da076b6aa1880"), looks := false }, kinds := [], alts := [], laidByText := true, laidKinds := [.data, .data, .data], laidTests := true, laidLooks := .later }
def StatementTextsCardSaid : Prop := Claim7.holds Tryd.pinned (.plain (OpenSpec.ofChange statementTextsSpec)) statementTextsCard

/-- THE TIED CARD OF 'corebanklaw45.StatementFollows'. -/
def statementFollowsCard : Claim7 := { stood := { row := statementFollowsRow, standIns := [], harness := (true, "6860be40488e7431315ed7a2ece38f650bf8998d9cdfe7a8d10da076b6aa1880"), looks := false }, kinds := [], alts := [], laidByText := true, laidKinds := [.data, .data, .data], laidTests := true, laidLooks := .later }
def StatementFollowsCardSaid : Prop := Claim7.holds Tryd.pinned (.plain (OpenSpec.ofChange statementFollowsSpec)) statementFollowsCard

/-- THE TIED CARD OF 'corebanklaw45.StatementOthers'. -/
def statementOthersCard : Claim7 := { stood := { row := statementOthersRow, standIns := [], harness := (true, "6860be40488e7431315ed7a2ece38f650bf8998d9cdfe7a8d10da076b6aa1880"), looks := false }, kinds := [], alts := [], laidByText := true, laidKinds := [.data, .data, .data], laidTests := true, laidLooks := .later }
def StatementOthersCardSaid : Prop := Claim7.holds Tryd.pinned (.plain (OpenSpec.ofChange statementOthersSpec)) statementOthersCard

/-- THE SECOND FORM's CARD OF 'corebanklaw45.StatementMakes'. -/
def statementMakesUptoCard : Claim7 := { stood := { row := statementMakesUptoRow, standIns := [], harness := (true, "6860be40488e7431315ed7a2ece38f650bf8998d9cdfe7a8d10da076b6aa1880"), looks := false }, kinds := [], alts := [], laidByText := true, laidKinds := [.data, .data, .data], laidTests := true, laidLooks := .later }
def StatementMakesUptoCardSaid : Prop := Claim7.holds Tryd.pinned (.plain (OpenSpec.upto statementMakesSpec)) statementMakesUptoCard

/-- THE SECOND FORM's CARD OF 'corebanklaw45.StatementChecks'. -/
def statementChecksUptoCard : Claim7 := { stood := { row := statementChecksUptoRow, standIns := [], harness := (true, "6860be40488e7431315ed7a2ece38f650bf8998d9cdfe7a8d10da076b6aa1880"), looks := false }, kinds := [], alts := [], laidByText := true, laidKinds := [.data, .data, .data], laidTests := true, laidLooks := .later }
def StatementChecksUptoCardSaid : Prop := Claim7.holds Tryd.pinned (.plain (OpenSpec.upto statementChecksSpec)) statementChecksUptoCard

/-- THE SECOND FORM's CARD OF 'corebanklaw45.StatementTexts'. -/
def statementTextsUptoCard : Claim7 := { stood := { row := statementTextsUptoRow, standIns := [], harness := (true, "6860be40488e7431315ed7a2ece38f650bf8998d9cdfe7a8d10da076b6aa1880"), looks := false }, kinds := [], alts := [], laidByText := true, laidKinds := [.data, .data, .data], laidTests := true, laidLooks := .later }
def StatementTextsUptoCardSaid : Prop := Claim7.holds Tryd.pinned (.plain (OpenSpec.upto statementTextsSpec)) statementTextsUptoCard

/-- THE SECOND FORM's CARD OF 'corebanklaw45.StatementFollows'. -/
def statementFollowsUptoCard : Claim7 := { stood := { row := statementFollowsUptoRow, standIns := [], harness := (true, "6860be40488e7431315ed7a2ece38f650bf8998d9cdfe7a8d10da076b6aa1880"), looks := false }, kinds := [], alts := [], laidByText := true, laidKinds := [.data, .data, .data], laidTests := true, laidLooks := .later }
def StatementFollowsUptoCardSaid : Prop := Claim7.holds Tryd.pinned (.plain (OpenSpec.upto statementFollowsSpec)) statementFollowsUptoCard

/-- THE SECOND FORM's CARD OF 'corebanklaw45.StatementOthers'. -/
def statementOthersUptoCard : Claim7 := { stood := { row := statementOthersUptoRow, standIns := [], harness := (true, "6860be40488e7431315ed7a2ece38f650bf8998d9cdfe7a8d10da076b6aa1880"), looks := false }, kinds := [], alts := [], laidByText := true, laidKinds := [.data, .data, .data], laidTests := true, laidLooks := .later }
def StatementOthersUptoCardSaid : Prop := Claim7.holds Tryd.pinned (.plain (OpenSpec.upto statementOthersSpec)) statementOthersUptoCard
end Rows
end Go.Proofs.YtodfpfbcjiganaaDoor
