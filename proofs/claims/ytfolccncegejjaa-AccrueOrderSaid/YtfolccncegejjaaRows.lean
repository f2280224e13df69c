/-
  NARROWER THAN 'FOR EVERY INPUT', by the rows' own cells (each row's printed sentence says how): AccrueDays: loops · AccrueSeries: loops · AccrueAdds: loops · AccrueOrder: loops · AccrueSides: loops.
  DERIVED. THE GIVEN ROWS OF THIS SEAT. 6 by the template 'for every input the law returns true; each argument reads behind the call as it read before'; 0 by the template 'total and deterministic' (their statements: YtfolccncegejjaaTotals.lean).
  GIVEN WITH THE SEED: the statements are not yours to turn. If you find one false, say at which input.
  Laid BY PROGRAM, IN A SANDBOX (cutbox-rows.mjs): the forced cells as the released guide's own fill.sh prints them over the translation ebe65f9a13b40df8… (all of the seat's roots in one cut). By AI agents, Wed Nov 11 2026. No macro, syntax, notation, axiom, sorry.
-/
import Derived.Test.YtfolccncegejjaaChecked
import GoSem.Claim
import GoSem.ClaimJoined
import GoSem.ClaimMapViews
import Derived.JoinedTies
import Derived.KernelRfl
namespace Go.Proofs.Ytfolccncegejjaa
/- THE CELL 'sum', in the pinned program and in every row, IS THE sha256 OF THE DUMP (.gsa) THAT YtfolccncegejjaaProg.lean LOADS. Nothing in Lean hashes anything: it is a label: what it is worth is what the hold of that sum in a sandbox is worth. -/
noncomputable def Try.pinned : Pinned := { name := "ytfolccncegejjaa", sum := "ebe65f9a13b40df82dfec1efb3eeec8cd5d802fa979a13021aaf42d3812f72ea", checked := Try.checked }
namespace Rows
def none {H : Type} : Left H := { results := [], args := [] }

/-- 'corebanklaw27.AccrueDays': WHATEVER THE INPUT: true; the input reads as it did. -/
def accrueDaysSpec : ChangeSpec := { name := "accrueDays", fn := fun _ => fun
  | [d1, d2, d3] => { results := [.lit (.bool true)], args := [d1, d2, d3] }
  | _ => none }
def accrueDaysRow : OpenClaim := { program := "ytfolccncegejjaa", sum := "ebe65f9a13b40df82dfec1efb3eeec8cd5d802fa979a13021aaf42d3812f72ea", func := "corebank/corebanklaw27.AccrueDays", spec := "accrueDays", inPlace := ["math/bits.Add64"], unfollowed := true, recurses := true, loops := true, apart := false }
def AccrueDaysSaid : Prop := accrueDaysRow.holds Try.pinned (OpenSpec.ofChange accrueDaysSpec)

/-- ITS FALSE NEIGHBOUR: 'it returns false'. Refute it at one input. -/
def accrueDaysWrong : ChangeSpec := { name := "accrueDays", fn := fun _ => fun
  | [d1, d2, d3] => { results := [.lit (.bool false)], args := [d1, d2, d3] }
  | _ => none }
def AccrueDaysWrongFalsely : Prop := accrueDaysRow.holds Try.pinned (OpenSpec.ofChange accrueDaysWrong)

/-- 'corebanklaw27.AccrueSeries': WHATEVER THE INPUT: true; the input reads as it did. -/
def accrueSeriesSpec : ChangeSpec := { name := "accrueSeries", fn := fun _ => fun
  | [d1, d2, d3, d4] => { results := [.lit (.bool true)], args := [d1, d2, d3, d4] }
  | _ => none }
def accrueSeriesRow : OpenClaim := { program := "ytfolccncegejjaa", sum := "ebe65f9a13b40df82dfec1efb3eeec8cd5d802fa979a13021aaf42d3812f72ea", func := "corebank/corebanklaw27.AccrueSeries", spec := "accrueSeries", inPlace := ["math/bits.Add64"], unfollowed := true, recurses := true, loops := true, apart := false }
def AccrueSeriesSaid : Prop := accrueSeriesRow.holds Try.pinned (OpenSpec.ofChange accrueSeriesSpec)

/-- ITS FALSE NEIGHBOUR: 'it returns false'. Refute it at one input. -/
def accrueSeriesWrong : ChangeSpec := { name := "accrueSeries", fn := fun _ => fun
  | [d1, d2, d3, d4] => { results := [.lit (.bool false)], args := [d1, d2, d3, d4] }
  | _ => none }
def AccrueSeriesWrongFalsely : Prop := accrueSeriesRow.holds Try.pinned (OpenSpec.ofChange accrueSeriesWrong)

/-- 'corebanklaw27.AccrueTotals': WHATEVER THE INPUT: true; the input reads as it did. -/
def accrueTotalsSpec : ChangeSpec := { name := "accrueTotals", fn := fun _ => fun
  | [d] => { results := [.lit (.bool true)], args := [d] }
  | _ => none }
def accrueTotalsRow : OpenClaim := { program := "ytfolccncegejjaa", sum := "ebe65f9a13b40df82dfec1efb3eeec8cd5d802fa979a13021aaf42d3812f72ea", func := "corebank/corebanklaw27.AccrueTotals", spec := "accrueTotals", inPlace := ["math/bits.Add64"], unfollowed := true, recurses := true, apart := false }
def AccrueTotalsSaid : Prop := accrueTotalsRow.holds Try.pinned (OpenSpec.ofChange accrueTotalsSpec)

/-- ITS FALSE NEIGHBOUR: 'it returns false'. Refute it at one input. -/
def accrueTotalsWrong : ChangeSpec := { name := "accrueTotals", fn := fun _ => fun
  | [d] => { results := [.lit (.bool false)], args := [d] }
  | _ => none }
def AccrueTotalsWrongFalsely : Prop := accrueTotalsRow.holds Try.pinned (OpenSpec.ofChange accrueTotalsWrong)

/-- 'corebanklaw27.AccrueAdds': WHATEVER THE INPUT: true; the input reads as it did. -/
def accrueAddsSpec : ChangeSpec := { name := "accrueAdds", fn := fun _ => fun
  | [d1, d2, d3, d4] => { results := [.lit (.bool true)], args := [d1, d2, d3, d4] }
  | _ => none }
def accrueAddsRow : OpenClaim := { program := "ytfolccncegejjaa", sum := "ebe65f9a13b40df82dfec1efb3eeec8cd5d802fa979a13021aaf42d3812f72ea", func := "corebank/corebanklaw27.AccrueAdds", spec := "accrueAdds", inPlace := ["math/bits.Add64"], unfollowed := true, recurses := true, loops := true, apart := false }
def AccrueAddsSaid : Prop := accrueAddsRow.holds Try.pinned (OpenSpec.ofChange accrueAddsSpec)

/-- ITS FALSE NEIGHBOUR: 'it returns false'. Refute it at one input. -/
def accrueAddsWrong : ChangeSpec := { name := "accrueAdds", fn := fun _ => fun
  | [d1, d2, d3, d4] => { results := [.lit (.bool false)], args := [d1, d2, d3, d4] }
  | _ => none }
def AccrueAddsWrongFalsely : Prop := accrueAddsRow.holds Try.pinned (OpenSpec.ofChange accrueAddsWrong)

/-- 'corebanklaw27.AccrueOrder': WHATEVER THE INPUT: true; the input reads as it did. -/
def accrueOrderSpec : ChangeSpec := { name := "accrueOrder", fn := fun _ => fun
  | [d1, d2, d3, d4] => { results := [.lit (.bool true)], args := [d1, d2, d3, d4] }
  | _ => none }
def accrueOrderRow : OpenClaim := { program := "ytfolccncegejjaa", sum := "ebe65f9a13b40df82dfec1efb3eeec8cd5d802fa979a13021aaf42d3812f72ea", func := "corebank/corebanklaw27.AccrueOrder", spec := "accrueOrder", inPlace := ["math/bits.Add64"], unfollowed := true, recurses := true, loops := true, apart := false }
def AccrueOrderSaid : Prop := accrueOrderRow.holds Try.pinned (OpenSpec.ofChange accrueOrderSpec)

/-- ITS FALSE NEIGHBOUR: 'it returns false'. Refute it at one input. -/
def accrueOrderWrong : ChangeSpec := { name := "accrueOrder", fn := fun _ => fun
  | [d1, d2, d3, d4] => { results := [.lit (.bool false)], args := [d1, d2, d3, d4] }
  | _ => none }
def AccrueOrderWrongFalsely : Prop := accrueOrderRow.holds Try.pinned (OpenSpec.ofChange accrueOrderWrong)

/-- 'corebanklaw27.AccrueSides': WHATEVER THE INPUT: true; the input reads as it did. -/
def accrueSidesSpec : ChangeSpec := { name := "accrueSides", fn := fun _ => fun
  | [d1, d2, d3] => { results := [.lit (.bool true)], args := [d1, d2, d3] }
  | _ => none }
def accrueSidesRow : OpenClaim := { program := "ytfolccncegejjaa", sum := "ebe65f9a13b40df82dfec1efb3eeec8cd5d802fa979a13021aaf42d3812f72ea", func := "corebank/corebanklaw27.AccrueSides", spec := "accrueSides", inPlace := ["math/bits.Add64"], unfollowed := true, recurses := true, loops := true, apart := false }
def AccrueSidesSaid : Prop := accrueSidesRow.holds Try.pinned (OpenSpec.ofChange accrueSidesSpec)

/-- ITS FALSE NEIGHBOUR: 'it returns false'. Refute it at one input. -/
def accrueSidesWrong : ChangeSpec := { name := "accrueSides", fn := fun _ => fun
  | [d1, d2, d3] => { results := [.lit (.bool false)], args := [d1, d2, d3] }
  | _ => none }
def AccrueSidesWrongFalsely : Prop := accrueSidesRow.holds Try.pinned (OpenSpec.ofChange accrueSidesWrong)

/- THE SECOND FORM. 'bulk': how many values and letters a reading holds, each counted each time it is reached (what is shared counts as often as it is met; a slice's spare places count too). A statement '..UptoSaid' is the law's where the arguments, and the package variables that the reading takes, are together of bulk at most 1048576: NARROWER than '..Said'. Prove '..Said' where nothing that the law and all that it calls make is longer than what came in: it says more and counts as full. Else prove '..UptoSaid'. A law counts once. -/
mutual
def uptoBulk {H : Type} : DataW H → Nat
  | .lit (.string bytes) => bytes.length + 1
  | .lit _ => 1
  | .nil => 1
  | .ptr d => uptoBulk d + 1
  | .slice elems spare => uptoBulkAll elems + uptoBulkAll spare + 1
  | .agg parts => uptoBulkAll parts + 1
  | .iface _ d => uptoBulk d + 1
  | .map entries => uptoBulkEntries entries + 1
  | .held _ => 1
def uptoBulkAll {H : Type} : List (DataW H) → Nat
  | [] => 0
  | d :: r => uptoBulk d + uptoBulkAll r
def uptoBulkEntries {H : Type} : List (Lit × DataW H) → Nat
  | [] => 0
  | x :: r => uptoBulkEntry x + uptoBulkEntries r
def uptoBulkEntry {H : Type} : Lit × DataW H → Nat
  | (.string bytes, d) => bytes.length + uptoBulk d + 1
  | (_, d) => uptoBulk d + 1
 end
def uptoSmall : (H : Type) → List (DataW H) → Bool := fun _ ds => decide (uptoBulkAll ds ≤ 1048576)
def OpenSpec.upto (s : _root_.Go.ChangeSpec) : _root_.Go.OpenSpec := { _root_.Go.OpenSpec.ofChange s with cond := some uptoSmall }

/-- 'corebanklaw27.AccrueDays', WHERE WHAT IT READS IS OF BULK AT MOST 1048576: true; the input reads as it did. -/
def accrueDaysUptoRow : OpenClaim := { program := "ytfolccncegejjaa", sum := "ebe65f9a13b40df82dfec1efb3eeec8cd5d802fa979a13021aaf42d3812f72ea", func := "corebank/corebanklaw27.AccrueDays", spec := "accrueDays", inPlace := ["math/bits.Add64"], unfollowed := true, recurses := true, loops := true, apart := false, narrowed := true }
def AccrueDaysUptoSaid : Prop := accrueDaysUptoRow.holds Try.pinned (OpenSpec.upto accrueDaysSpec)

/-- 'corebanklaw27.AccrueSeries', WHERE WHAT IT READS IS OF BULK AT MOST 1048576: true; the input reads as it did. -/
def accrueSeriesUptoRow : OpenClaim := { program := "ytfolccncegejjaa", sum := "ebe65f9a13b40df82dfec1efb3eeec8cd5d802fa979a13021aaf42d3812f72ea", func := "corebank/corebanklaw27.AccrueSeries", spec := "accrueSeries", inPlace := ["math/bits.Add64"], unfollowed := true, recurses := true, loops := true, apart := false, narrowed := true }
def AccrueSeriesUptoSaid : Prop := accrueSeriesUptoRow.holds Try.pinned (OpenSpec.upto accrueSeriesSpec)

/-- 'corebanklaw27.AccrueTotals', WHERE WHAT IT READS IS OF BULK AT MOST 1048576: true; the input reads as it did. -/
def accrueTotalsUptoRow : OpenClaim := { program := "ytfolccncegejjaa", sum := "ebe65f9a13b40df82dfec1efb3eeec8cd5d802fa979a13021aaf42d3812f72ea", func := "corebank/corebanklaw27.AccrueTotals", spec := "accrueTotals", inPlace := ["math/bits.Add64"], unfollowed := true, recurses := true, apart := false, narrowed := true }
def AccrueTotalsUptoSaid : Prop := accrueTotalsUptoRow.holds Try.pinned (OpenSpec.upto accrueTotalsSpec)

/-- 'corebanklaw27.AccrueAdds', WHERE WHAT IT READS IS OF BULK AT MOST 1048576: true; the input reads as it did. -/
def accrueAddsUptoRow : OpenClaim := { program := "ytfolccncegejjaa", sum := "ebe65f9a13b40df82dfec1efb3eeec8cd5d802fa979a13021aaf42d3812f72ea", func := "corebank/corebanklaw27.AccrueAdds", spec := "accrueAdds", inPlace := ["math/bits.Add64"], unfollowed := true, recurses := true, loops := true, apart := false, narrowed := true }
def AccrueAddsUptoSaid : Prop := accrueAddsUptoRow.holds Try.pinned (OpenSpec.upto accrueAddsSpec)

/-- 'corebanklaw27.AccrueOrder', WHERE WHAT IT READS IS OF BULK AT MOST 1048576: true; the input reads as it did. -/
def accrueOrderUptoRow : OpenClaim := { program := "ytfolccncegejjaa", sum := "ebe65f9a13b40df82dfec1efb3eeec8cd5d802fa979a13021aaf42d3812f72ea", func := "corebank/corebanklaw27.AccrueOrder", spec := "accrueOrder", inPlace := ["math/bits.Add64"], unfollowed := true, recurses := true, loops := true, apart := false, narrowed := true }
def AccrueOrderUptoSaid : Prop := accrueOrderUptoRow.holds Try.pinned (OpenSpec.upto accrueOrderSpec)

/-- 'corebanklaw27.AccrueSides', WHERE WHAT IT READS IS OF BULK AT MOST 1048576: true; the input reads as it did. -/
def accrueSidesUptoRow : OpenClaim := { program := "ytfolccncegejjaa", sum := "ebe65f9a13b40df82dfec1efb3eeec8cd5d802fa979a13021aaf42d3812f72ea", func := "corebank/corebanklaw27.AccrueSides", spec := "accrueSides", inPlace := ["math/bits.Add64"], unfollowed := true, recurses := true, loops := true, apart := false, narrowed := true }
def AccrueSidesUptoSaid : Prop := accrueSidesUptoRow.holds Try.pinned (OpenSpec.upto accrueSidesSpec)

end Rows
end Go.Proofs.Ytfolccncegejjaa
