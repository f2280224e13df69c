/- Texts laid together: TwE. -/
import Derived.Test.YtpghciiifnjimaaGreatDoorRows
import Derived.Test.YtpghciiifnjimaaGreatDoorCards
import Derived.Test.YtpghciiifnjimaaGreatDoorTie
import Derived.JoinedOf
import Derived.ProofKit
import Derived.SevenTiedAt
namespace Go.Proofs.YtpghciiifnjimaaGreatDoor.topStatementsFacts
set_option maxRecDepth 4000
set_option linter.unusedSimpArgs false
set_option linter.unusedVariables false
set_option maxRecDepth 100000
theorem j0 : (Rows.topStatementsRow.wf (OpenSpec.ofChange Rows.topStatementsSpec)) = true := by kernel_rfl
theorem j1 : (laidOutB Tryz.prog) = true := by kernel_rfl
theorem j2 : (mapsRowed Tryz.prog) = true := by kernel_rfl
theorem j3 : (Tryz.f3.params.all (Tryz.prog.readableRec ·)) = true := by kernel_rfl
theorem j4 : (namedTie Tryz.prog Rows.topStatementsRow.named Rows.topStatementsSpec.vars) = true := by kernel_rfl
theorem j5 : ((Rows.topStatementsRow.stops == [])) = true := by kernel_rfl
theorem j6 : ((Tryz.prog.stops == [])) = true := by kernel_rfl
theorem j7 : ((Rows.topStatementsRow.knobs == [])) = true := by kernel_rfl
theorem j8 : ((Tryz.prog.stopKnobs == [])) = true := by kernel_rfl
theorem j9 : ((Rows.topStatementsRow.inPlace == Tryz.prog.inPlace 3)) = true := by kernel_rfl
end Go.Proofs.YtpghciiifnjimaaGreatDoor.topStatementsFacts
