/-
  DERIVED. GIVEN WITH THE SEED: THE CARDS: each row of YtoilodkklcfbiaaDoorRows.lean that lists a variable, with what it lists TIED to the program's text (the seventh form; the later family's looks); each row that meets fmt, with fmt's text TOLD by the authors' own Lean function (tested against real Go, not proved from fmt's source: count such statements apart). THE CARD IS WHAT COUNTS. Prove the row's statement (the work); the ties are given (YtoilodkklcfbiaaDoorTie.lean); close each card by the builder's one call (the guide's Derived/Test/ToyasCard.lean, 'card_holds'). Laid BY PROGRAM, IN A SANDBOX (cutbox-door.mjs). By AI agents, Wed Nov 11 2026. No macro, syntax, notation, axiom, sorry.
-/
import Derived.Test.YtoilodkklcfbiaaDoorRows
import GoSem.ClaimSeven
namespace Go.Proofs.YtoilodkklcfbiaaDoor
namespace Rows

/-- THE TIED CARD OF 'corebanklaw04.DateCivils'. -/
def dateCivilsCard : Claim7 := { stood := { row := dateCivilsRow, standIns := [], harness := (true, "0991471244bad393d41f6dc4d780dd1152e2e1d112d17cbacb1e334acf6633c5"), looks := false }, kinds := [], alts := [], laidByText := true, laidKinds := [.data, .data, .data], laidTests := true, laidLooks := .later }
def DateCivilsCardSaid : Prop := Claim7.holds Tryd.pinned (.plain (OpenSpec.ofChange dateCivilsSpec)) dateCivilsCard

/-- THE TIED CARD OF 'corebanklaw04.DateDays'. -/
def dateDaysCard : Claim7 := { stood := { row := dateDaysRow, standIns := [], harness := (true, "0991471244bad393d41f6dc4d780dd1152e2e1d112d17cbacb1e334acf6633c5"), looks := false }, kinds := [], alts := [], laidByText := true, laidKinds := [.data, .data, .data], laidTests := true, laidLooks := .later }
def DateDaysCardSaid : Prop := Claim7.holds Tryd.pinned (.plain (OpenSpec.ofChange dateDaysSpec)) dateDaysCard

/-- THE TIED CARD OF 'corebanklaw04.DateMonths'. -/
def dateMonthsCard : Claim7 := { stood := { row := dateMonthsRow, standIns := [], harness := (true, "0991471244bad393d41f6dc4d780dd1152e2e1d112d17cbacb1e334acf6633c5"), looks := false }, kinds := [], alts := [], laidByText := true, laidKinds := [.data, .data, .data], laidTests := true, laidLooks := .later }
def DateMonthsCardSaid : Prop := Claim7.holds Tryd.pinned (.plain (OpenSpec.ofChange dateMonthsSpec)) dateMonthsCard

/-- THE TIED CARD OF 'corebanklaw04.DateTexts'. -/
def dateTextsCard : Claim7 := { stood := { row := dateTextsRow, standIns := [], harness := (true, "0991471244bad393d41f6dc4d780dd1152e2e1d112d17cbacb1e334acf6633c5"), looks := false }, kinds := [], alts := [], laidByText := true, laidKinds := [.data, .data, .data], laidTests := true, laidLooks := .later }
def DateTextsCardSaid : Prop := Claim7.holds Tryd.pinned (.plain (OpenSpec.ofChange dateTextsSpec)) dateTextsCard

/-- THE TIED CARD OF 'corebanklaw04.DateSteps'. -/
def dateStepsCard : Claim7 := { stood := { row := dateStepsRow, standIns := [], harness := (true, "0991471244bad393d41f6dc4d780dd1152e2e1d112d17cbacb1e334acf6633c5"), looks := false }, kinds := [], alts := [], laidByText := true, laidKinds := [.data, .data, .data], laidTests := true, laidLooks := .later }
def DateStepsCardSaid : Prop := Claim7.holds Tryd.pinned (.plain (OpenSpec.ofChange dateStepsSpec)) dateStepsCard

/-- THE TIED CARD OF 'corebanklaw04.DateRoundTrips'. -/
def dateRoundTripsCard : Claim7 := { stood := { row := dateRoundTripsRow, standIns := [], harness := (true, "0991471244bad393d41f6dc4d780dd1152e2e1d112d17cbacb1e334acf6633c5"), looks := false }, kinds := [], alts := [], laidByText := true, laidKinds := [.data, .data, .data], laidTests := true, laidLooks := .later }
def DateRoundTripsCardSaid : Prop := Claim7.holds Tryd.pinned (.plain (OpenSpec.ofChange dateRoundTripsSpec)) dateRoundTripsCard

/-- THE SECOND FORM's CARD OF 'corebanklaw04.DateCivils'. -/
def dateCivilsUptoCard : Claim7 := { stood := { row := dateCivilsUptoRow, standIns := [], harness := (true, "0991471244bad393d41f6dc4d780dd1152e2e1d112d17cbacb1e334acf6633c5"), looks := false }, kinds := [], alts := [], laidByText := true, laidKinds := [.data, .data, .data], laidTests := true, laidLooks := .later }
def DateCivilsUptoCardSaid : Prop := Claim7.holds Tryd.pinned (.plain (OpenSpec.upto dateCivilsSpec)) dateCivilsUptoCard

/-- THE SECOND FORM's CARD OF 'corebanklaw04.DateDays'. -/
def dateDaysUptoCard : Claim7 := { stood := { row := dateDaysUptoRow, standIns := [], harness := (true, "0991471244bad393d41f6dc4d780dd1152e2e1d112d17cbacb1e334acf6633c5"), looks := false }, kinds := [], alts := [], laidByText := true, laidKinds := [.data, .data, .data], laidTests := true, laidLooks := .later }
def DateDaysUptoCardSaid : Prop := Claim7.holds Tryd.pinned (.plain (OpenSpec.upto dateDaysSpec)) dateDaysUptoCard

/-- THE SECOND FORM's CARD OF 'corebanklaw04.DateMonths'. -/
def dateMonthsUptoCard : Claim7 := { stood := { row := dateMonthsUptoRow, standIns := [], harness := (true, "0991471244bad393d41f6dc4d780dd1152e2e1d112d17cbacb1e334acf6633c5"), looks := false }, kinds := [], alts := [], laidByText := true, laidKinds := [.data, .data, .data], laidTests := true, laidLooks := .later }
def DateMonthsUptoCardSaid : Prop := Claim7.holds Tryd.pinned (.plain (OpenSpec.upto dateMonthsSpec)) dateMonthsUptoCard

/-- THE SECOND FORM's CARD OF 'corebanklaw04.DateTexts'. -/
def dateTextsUptoCard : Claim7 := { stood := { row := dateTextsUptoRow, standIns := [], harness := (true, "0991471244bad393d41f6dc4d780dd1152e2e1d112d17cbacb1e334acf6633c5"), looks := false }, kinds := [], alts := [], laidByText := true, laidKinds := [.data, .data, .data], laidTests := true, laidLooks := .later }
def DateTextsUptoCardSaid : Prop := Claim7.holds Tryd.pinned (.plain (OpenSpec.upto dateTextsSpec)) dateTextsUptoCard

/-- THE SECOND FORM's CARD OF 'corebanklaw04.DateSteps'. -/
def dateStepsUptoCard : Claim7 := { stood := { row := dateStepsUptoRow, standIns := [], harness := (true, "0991471244bad393d41f6dc4d780dd1152e2e1d112d17cbacb1e334acf6633c5"), looks := false }, kinds := [], alts := [], laidByText := true, laidKinds := [.data, .data, .data], laidTests := true, laidLooks := .later }
def DateStepsUptoCardSaid : Prop := Claim7.holds Tryd.pinned (.plain (OpenSpec.upto dateStepsSpec)) dateStepsUptoCard

/-- THE SECOND FORM's CARD OF 'corebanklaw04.DateRoundTrips'. -/
def dateRoundTripsUptoCard : Claim7 := { stood := { row := dateRoundTripsUptoRow, standIns := [], harness := (true, "0991471244bad393d41f6dc4d780dd1152e2e1d112d17cbacb1e334acf6633c5"), looks := false }, kinds := [], alts := [], laidByText := true, laidKinds := [.data, .data, .data], laidTests := true, laidLooks := .later }
def DateRoundTripsUptoCardSaid : Prop := Claim7.holds Tryd.pinned (.plain (OpenSpec.upto dateRoundTripsSpec)) dateRoundTripsUptoCard
end Rows
end Go.Proofs.YtoilodkklcfbiaaDoor
