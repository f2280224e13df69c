/- Texts laid together: TwG. -/
import Derived.Test.YtpghciiifnjimaaGreatDoorXTwF
import Derived.Test.YtpghciiifnjimaaGreatDoorRows
import Derived.Test.YtpghciiifnjimaaGreatDoorCards
import Derived.Test.YtpghciiifnjimaaGreatDoorTie
import Derived.JoinedOf
import Derived.ProofKit
import Derived.SevenTiedAt
namespace Go.Proofs.YtpghciiifnjimaaGreatDoor.topStatementsFacts
set_option maxRecDepth 4000
set_option linter.unusedSimpArgs false
set_option linter.unusedVariables false
set_option maxRecDepth 100000
theorem j21 : ((Rows.topStatementsRow.loopsOut == Tryz.f3.resultTypes.toList.any (Tryz.prog.loopsFrom ·))) = true := by kernel_rfl
theorem j22 : ((Rows.topStatementsRow.plainKeys == Tryz.prog.plainKeys)) = true := by kernel_rfl
theorem j23 : (Rows.topStatementsRow.shortTexts.isNone) = true := by kernel_rfl
theorem j24 : (Tryz.prog.stopsHeard) = true := by kernel_rfl
theorem j25 : (Tryz.prog.mayEnter) = true := by kernel_rfl
theorem j26 : ((Rows.topStatementsRow.lifted == Tryz.prog.liftsFinal)) = true := by kernel_rfl
theorem j27 : ((Tryz.prog.make == some Rows.topStatementsRow.make)) = true := by kernel_rfl
theorem j28 : ((Rows.topStatementsRow.kinds == (if Rows.topStatementsRow.domain.isEmpty then [] else Tryz.f3.params.toList.map fun t => match Tryz.prog.underlying t with | some (.int k) => some k | _ => none))) = true := by kernel_rfl
theorem j29 : ((Rows.topStatementsRow.pinned == Rows.topStatementsRow.pinnedBy)) = true := by kernel_rfl
theorem j30 : ((Rows.topStatementsRow.veiled == (Tryz.f3.params.toList ++ Rows.topStatementsSpec.plain.varTypes Tryz.prog ++ Tryz.f3.resultTypes.toList).any (Tryz.prog.veiledRec ·))) = true := by kernel_rfl
theorem j31 : (Rows.topStatementsRow.veiledFits Tryz.prog Tryz.f3.params.toList (Tryz.f3.params.toList ++ Rows.topStatementsSpec.plain.varTypes Tryz.prog ++ Tryz.f3.resultTypes.toList)) = true := by kernel_rfl
theorem ba {a b : Bool} (h : a = true) (g : b = true) : (a && b) = true := by rw [h, g]; rfl
theorem closed : joinedFacts Tryz.prog 3 Tryz.f3 Rows.topStatementsSpec Rows.topStatementsRow = true := by
 delta joinedFacts
 exact (ba (ba (ba (ba (ba (ba (ba (ba (ba (ba (ba (ba (ba (ba (ba (ba (ba (ba (ba (ba (ba (ba (ba (ba (ba (ba (ba (ba (ba (ba (ba j0 j1) j2) j3) j4) j5) j6) j7) j8) j9) j10) j11) j12) j13) j14) j15) j16) j17) j18) j19) j20) j21) j22) j23) j24) j25) j26) j27) j28) j29) j30) j31)
theorem c0 : Rows.topStatementsRow.wfByText (OpenSpec.ofChange Rows.topStatementsSpec) = true := by kernel_rfl
theorem c1 : true = Tryz.prog.looks [] := by kernel_rfl
theorem c2 : false = Rows.topStatementsRow.goesBy Tryz.prog := by kernel_rfl
end Go.Proofs.YtpghciiifnjimaaGreatDoor.topStatementsFacts
