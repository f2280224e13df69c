/- Texts laid together: TwF. -/
import Derived.Test.YtpghciiifnjimaaGreatDoorXTwE
import Derived.Test.YtpghciiifnjimaaGreatDoorRows
import Derived.Test.YtpghciiifnjimaaGreatDoorCards
import Derived.Test.YtpghciiifnjimaaGreatDoorTie
import Derived.JoinedOf
import Derived.ProofKit
import Derived.SevenTiedAt
namespace Go.Proofs.YtpghciiifnjimaaGreatDoor.topStatementsFacts
set_option maxRecDepth 4000
set_option linter.unusedSimpArgs false
set_option linter.unusedVariables false
set_option maxRecDepth 100000
theorem j10 : ((Rows.topStatementsRow.unfollowed == Tryz.prog.unfollowed 3)) = true := by kernel_rfl
theorem j11 : ((Rows.topStatementsRow.recurses == Tryz.prog.recurses 3)) = true := by kernel_rfl
theorem j12 : ((Rows.topStatementsRow.named == Tryz.prog.varsNamed 3)) = true := by kernel_rfl
theorem j13 : ((Rows.topStatementsRow.maps == (Tryz.f3.params.toList ++ Rows.topStatementsSpec.plain.varTypes Tryz.prog).any (Tryz.prog.mapsRec ·))) = true := by kernel_rfl
theorem j14 : ((Rows.topStatementsRow.ifaces == (Tryz.f3.params.toList ++ Rows.topStatementsSpec.plain.varTypes Tryz.prog).any (Tryz.prog.ifacesRec ·))) = true := by kernel_rfl
theorem j15 : ((Rows.topStatementsRow.mapsOut == Tryz.prog.mapsAmong Tryz.f3.resultTypes.toList)) = true := by kernel_rfl
theorem j16 : ((Rows.topStatementsRow.loops == (Tryz.f3.params.toList ++ Rows.topStatementsSpec.plain.varTypes Tryz.prog).any (Tryz.prog.loopsFrom ·))) = true := by kernel_rfl
theorem j17 : ((Rows.topStatementsRow.wideKeys == (Tryz.f3.params.toList ++ Rows.topStatementsSpec.plain.varTypes Tryz.prog ++ Tryz.f3.resultTypes.toList).any (Tryz.prog.wideKeysFrom ·))) = true := by kernel_rfl
theorem j18 : (Rows.topStatementsSpec.vars.all (Tryz.prog.varReadable ·)) = true := by kernel_rfl
theorem j19 : (Tryz.f3.resultTypes.all (fun t => Tryz.prog.readableRec t && decide (t < Tryz.prog.types.size))) = true := by kernel_rfl
theorem j20 : ((Rows.topStatementsRow.ifacesOut == Tryz.f3.resultTypes.toList.any (Tryz.prog.ifacesRec ·))) = true := by kernel_rfl
end Go.Proofs.YtpghciiifnjimaaGreatDoor.topStatementsFacts
