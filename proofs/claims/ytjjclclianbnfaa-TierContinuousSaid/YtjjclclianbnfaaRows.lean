/-
  No cell of these rows narrows 'for every input' (looked for: loops, veiled, ifaces, maps, wideKeys, modest, calm, conditions, laid).
  DERIVED. THE GIVEN ROWS OF THIS SEAT. 7 by the template 'for every input the law returns true; each argument reads behind the call as it read before'; 0 by the template 'total and deterministic' (their statements: YtjjclclianbnfaaTotals.lean).
  GIVEN WITH THE SEED: the statements are not yours to turn. If you find one false, say at which input.
  Laid BY PROGRAM, IN A SANDBOX (cutbox-rows.mjs): the forced cells as the released guide's own fill.sh prints them over the translation a298417a1a3e500a… (all of the seat's roots in one cut). By AI agents, Wed Nov 11 2026. No macro, syntax, notation, axiom, sorry.
-/
import Derived.Test.YtjjclclianbnfaaChecked
import GoSem.Claim
import GoSem.ClaimJoined
import GoSem.ClaimMapViews
import Derived.JoinedTies
import Derived.KernelRfl
namespace Go.Proofs.Ytjjclclianbnfaa
/- THE CELL 'sum', in the pinned program and in every row, IS THE sha256 OF THE DUMP (.gsa) THAT YtjjclclianbnfaaProg.lean LOADS. Nothing in Lean hashes anything: it is a label: what it is worth is what the hold of that sum in a sandbox is worth. -/
noncomputable def Try.pinned : Pinned := { name := "ytjjclclianbnfaa", sum := "a298417a1a3e500a63fd872ec8299c92e0b68558ad80df7bb6df4b441d2b49f4", checked := Try.checked }
namespace Rows
def none {H : Type} : Left H := { results := [], args := [] }

/-- 'corebanklaw14.TierChecks': WHATEVER THE INPUT: true; the input reads as it did. -/
def tierChecksSpec : ChangeSpec := { name := "tierChecks", fn := fun _ => fun
  | [d] => { results := [.lit (.bool true)], args := [d] }
  | _ => none }
def tierChecksRow : OpenClaim := { program := "ytjjclclianbnfaa", sum := "a298417a1a3e500a63fd872ec8299c92e0b68558ad80df7bb6df4b441d2b49f4", func := "corebank/corebanklaw14.TierChecks", spec := "tierChecks", inPlace := ["math/bits.Add64"], unfollowed := true, recurses := true, apart := false }
def TierChecksSaid : Prop := tierChecksRow.holds Try.pinned (OpenSpec.ofChange tierChecksSpec)

/-- ITS FALSE NEIGHBOUR: 'it returns false'. Refute it at one input. -/
def tierChecksWrong : ChangeSpec := { name := "tierChecks", fn := fun _ => fun
  | [d] => { results := [.lit (.bool false)], args := [d] }
  | _ => none }
def TierChecksWrongFalsely : Prop := tierChecksRow.holds Try.pinned (OpenSpec.ofChange tierChecksWrong)

/-- 'corebanklaw14.TierRates': WHATEVER THE INPUT: true; the input reads as it did. -/
def tierRatesSpec : ChangeSpec := { name := "tierRates", fn := fun _ => fun
  | [d1, d2] => { results := [.lit (.bool true)], args := [d1, d2] }
  | _ => none }
def tierRatesRow : OpenClaim := { program := "ytjjclclianbnfaa", sum := "a298417a1a3e500a63fd872ec8299c92e0b68558ad80df7bb6df4b441d2b49f4", func := "corebank/corebanklaw14.TierRates", spec := "tierRates", inPlace := ["math/bits.Add64"], unfollowed := true, recurses := true, apart := false }
def TierRatesSaid : Prop := tierRatesRow.holds Try.pinned (OpenSpec.ofChange tierRatesSpec)

/-- ITS FALSE NEIGHBOUR: 'it returns false'. Refute it at one input. -/
def tierRatesWrong : ChangeSpec := { name := "tierRates", fn := fun _ => fun
  | [d1, d2] => { results := [.lit (.bool false)], args := [d1, d2] }
  | _ => none }
def TierRatesWrongFalsely : Prop := tierRatesRow.holds Try.pinned (OpenSpec.ofChange tierRatesWrong)

/-- 'corebanklaw14.TierSlices': WHATEVER THE INPUT: true; the input reads as it did. -/
def tierSlicesSpec : ChangeSpec := { name := "tierSlices", fn := fun _ => fun
  | [d1, d2, d3] => { results := [.lit (.bool true)], args := [d1, d2, d3] }
  | _ => none }
def tierSlicesRow : OpenClaim := { program := "ytjjclclianbnfaa", sum := "a298417a1a3e500a63fd872ec8299c92e0b68558ad80df7bb6df4b441d2b49f4", func := "corebank/corebanklaw14.TierSlices", spec := "tierSlices", inPlace := ["math/bits.Add64"], unfollowed := true, recurses := true, apart := false }
def TierSlicesSaid : Prop := tierSlicesRow.holds Try.pinned (OpenSpec.ofChange tierSlicesSpec)

/-- ITS FALSE NEIGHBOUR: 'it returns false'. Refute it at one input. -/
def tierSlicesWrong : ChangeSpec := { name := "tierSlices", fn := fun _ => fun
  | [d1, d2, d3] => { results := [.lit (.bool false)], args := [d1, d2, d3] }
  | _ => none }
def TierSlicesWrongFalsely : Prop := tierSlicesRow.holds Try.pinned (OpenSpec.ofChange tierSlicesWrong)

/-- 'corebanklaw14.TierGrains': WHATEVER THE INPUT: true; the input reads as it did. -/
def tierGrainsSpec : ChangeSpec := { name := "tierGrains", fn := fun _ => fun
  | [d1, d2] => { results := [.lit (.bool true)], args := [d1, d2] }
  | _ => none }
def tierGrainsRow : OpenClaim := { program := "ytjjclclianbnfaa", sum := "a298417a1a3e500a63fd872ec8299c92e0b68558ad80df7bb6df4b441d2b49f4", func := "corebank/corebanklaw14.TierGrains", spec := "tierGrains", inPlace := ["math/bits.Add64"], unfollowed := true, recurses := true, apart := false }
def TierGrainsSaid : Prop := tierGrainsRow.holds Try.pinned (OpenSpec.ofChange tierGrainsSpec)

/-- ITS FALSE NEIGHBOUR: 'it returns false'. Refute it at one input. -/
def tierGrainsWrong : ChangeSpec := { name := "tierGrains", fn := fun _ => fun
  | [d1, d2] => { results := [.lit (.bool false)], args := [d1, d2] }
  | _ => none }
def TierGrainsWrongFalsely : Prop := tierGrainsRow.holds Try.pinned (OpenSpec.ofChange tierGrainsWrong)

/-- 'corebanklaw14.TierContinuous': WHATEVER THE INPUT: true; the input reads as it did. -/
def tierContinuousSpec : ChangeSpec := { name := "tierContinuous", fn := fun _ => fun
  | [d1, d2] => { results := [.lit (.bool true)], args := [d1, d2] }
  | _ => none }
def tierContinuousRow : OpenClaim := { program := "ytjjclclianbnfaa", sum := "a298417a1a3e500a63fd872ec8299c92e0b68558ad80df7bb6df4b441d2b49f4", func := "corebank/corebanklaw14.TierContinuous", spec := "tierContinuous", inPlace := ["math/bits.Add64"], unfollowed := true, recurses := true, apart := false }
def TierContinuousSaid : Prop := tierContinuousRow.holds Try.pinned (OpenSpec.ofChange tierContinuousSpec)

/-- ITS FALSE NEIGHBOUR: 'it returns false'. Refute it at one input. -/
def tierContinuousWrong : ChangeSpec := { name := "tierContinuous", fn := fun _ => fun
  | [d1, d2] => { results := [.lit (.bool false)], args := [d1, d2] }
  | _ => none }
def TierContinuousWrongFalsely : Prop := tierContinuousRow.holds Try.pinned (OpenSpec.ofChange tierContinuousWrong)

/-- 'corebanklaw14.TierAdds': WHATEVER THE INPUT: true; the input reads as it did. -/
def tierAddsSpec : ChangeSpec := { name := "tierAdds", fn := fun _ => fun
  | [d1, d2, d3] => { results := [.lit (.bool true)], args := [d1, d2, d3] }
  | _ => none }
def tierAddsRow : OpenClaim := { program := "ytjjclclianbnfaa", sum := "a298417a1a3e500a63fd872ec8299c92e0b68558ad80df7bb6df4b441d2b49f4", func := "corebank/corebanklaw14.TierAdds", spec := "tierAdds", inPlace := ["math/bits.Add64"], unfollowed := true, recurses := true, apart := false }
def TierAddsSaid : Prop := tierAddsRow.holds Try.pinned (OpenSpec.ofChange tierAddsSpec)

/-- ITS FALSE NEIGHBOUR: 'it returns false'. Refute it at one input. -/
def tierAddsWrong : ChangeSpec := { name := "tierAdds", fn := fun _ => fun
  | [d1, d2, d3] => { results := [.lit (.bool false)], args := [d1, d2, d3] }
  | _ => none }
def TierAddsWrongFalsely : Prop := tierAddsRow.holds Try.pinned (OpenSpec.ofChange tierAddsWrong)

/-- 'corebanklaw14.TierFlat': WHATEVER THE INPUT: true; the input reads as it did. -/
def tierFlatSpec : ChangeSpec := { name := "tierFlat", fn := fun _ => fun
  | [d1, d2, d3] => { results := [.lit (.bool true)], args := [d1, d2, d3] }
  | _ => none }
def tierFlatRow : OpenClaim := { program := "ytjjclclianbnfaa", sum := "a298417a1a3e500a63fd872ec8299c92e0b68558ad80df7bb6df4b441d2b49f4", func := "corebank/corebanklaw14.TierFlat", spec := "tierFlat", inPlace := ["math/bits.Add64"], unfollowed := true, recurses := true, apart := false }
def TierFlatSaid : Prop := tierFlatRow.holds Try.pinned (OpenSpec.ofChange tierFlatSpec)

/-- ITS FALSE NEIGHBOUR: 'it returns false'. Refute it at one input. -/
def tierFlatWrong : ChangeSpec := { name := "tierFlat", fn := fun _ => fun
  | [d1, d2, d3] => { results := [.lit (.bool false)], args := [d1, d2, d3] }
  | _ => none }
def TierFlatWrongFalsely : Prop := tierFlatRow.holds Try.pinned (OpenSpec.ofChange tierFlatWrong)

/- THE SECOND FORM. 'bulk': how many values and letters a reading holds, each counted each time it is reached (what is shared counts as often as it is met; a slice's spare places count too). A statement '..UptoSaid' is the law's where the arguments, and the package variables that the reading takes, are together of bulk at most 1048576: NARROWER than '..Said'. Prove '..Said' where nothing that the law and all that it calls make is longer than what came in: it says more and counts as full. Else prove '..UptoSaid'. A law counts once. -/
mutual
def uptoBulk {H : Type} : DataW H → Nat
  | .lit (.string bytes) => bytes.length + 1
  | .lit _ => 1
  | .nil => 1
  | .ptr d => uptoBulk d + 1
  | .slice elems spare => uptoBulkAll elems + uptoBulkAll spare + 1
  | .agg parts => uptoBulkAll parts + 1
  | .iface _ d => uptoBulk d + 1
  | .map entries => uptoBulkEntries entries + 1
  | .held _ => 1
def uptoBulkAll {H : Type} : List (DataW H) → Nat
  | [] => 0
  | d :: r => uptoBulk d + uptoBulkAll r
def uptoBulkEntries {H : Type} : List (Lit × DataW H) → Nat
  | [] => 0
  | x :: r => uptoBulkEntry x + uptoBulkEntries r
def uptoBulkEntry {H : Type} : Lit × DataW H → Nat
  | (.string bytes, d) => bytes.length + uptoBulk d + 1
  | (_, d) => uptoBulk d + 1
 end
def uptoSmall : (H : Type) → List (DataW H) → Bool := fun _ ds => decide (uptoBulkAll ds ≤ 1048576)
def OpenSpec.upto (s : _root_.Go.ChangeSpec) : _root_.Go.OpenSpec := { _root_.Go.OpenSpec.ofChange s with cond := some uptoSmall }

/-- 'corebanklaw14.TierChecks', WHERE WHAT IT READS IS OF BULK AT MOST 1048576: true; the input reads as it did. -/
def tierChecksUptoRow : OpenClaim := { program := "ytjjclclianbnfaa", sum := "a298417a1a3e500a63fd872ec8299c92e0b68558ad80df7bb6df4b441d2b49f4", func := "corebank/corebanklaw14.TierChecks", spec := "tierChecks", inPlace := ["math/bits.Add64"], unfollowed := true, recurses := true, apart := false, narrowed := true }
def TierChecksUptoSaid : Prop := tierChecksUptoRow.holds Try.pinned (OpenSpec.upto tierChecksSpec)

/-- 'corebanklaw14.TierRates', WHERE WHAT IT READS IS OF BULK AT MOST 1048576: true; the input reads as it did. -/
def tierRatesUptoRow : OpenClaim := { program := "ytjjclclianbnfaa", sum := "a298417a1a3e500a63fd872ec8299c92e0b68558ad80df7bb6df4b441d2b49f4", func := "corebank/corebanklaw14.TierRates", spec := "tierRates", inPlace := ["math/bits.Add64"], unfollowed := true, recurses := true, apart := false, narrowed := true }
def TierRatesUptoSaid : Prop := tierRatesUptoRow.holds Try.pinned (OpenSpec.upto tierRatesSpec)

/-- 'corebanklaw14.TierSlices', WHERE WHAT IT READS IS OF BULK AT MOST 1048576: true; the input reads as it did. -/
def tierSlicesUptoRow : OpenClaim := { program := "ytjjclclianbnfaa", sum := "a298417a1a3e500a63fd872ec8299c92e0b68558ad80df7bb6df4b441d2b49f4", func := "corebank/corebanklaw14.TierSlices", spec := "tierSlices", inPlace := ["math/bits.Add64"], unfollowed := true, recurses := true, apart := false, narrowed := true }
def TierSlicesUptoSaid : Prop := tierSlicesUptoRow.holds Try.pinned (OpenSpec.upto tierSlicesSpec)

/-- 'corebanklaw14.TierGrains', WHERE WHAT IT READS IS OF BULK AT MOST 1048576: true; the input reads as it did. -/
def tierGrainsUptoRow : OpenClaim := { program := "ytjjclclianbnfaa", sum := "a298417a1a3e500a63fd872ec8299c92e0b68558ad80df7bb6df4b441d2b49f4", func := "corebank/corebanklaw14.TierGrains", spec := "tierGrains", inPlace := ["math/bits.Add64"], unfollowed := true, recurses := true, apart := false, narrowed := true }
def TierGrainsUptoSaid : Prop := tierGrainsUptoRow.holds Try.pinned (OpenSpec.upto tierGrainsSpec)

/-- 'corebanklaw14.TierContinuous', WHERE WHAT IT READS IS OF BULK AT MOST 1048576: true; the input reads as it did. -/
def tierContinuousUptoRow : OpenClaim := { program := "ytjjclclianbnfaa", sum := "a298417a1a3e500a63fd872ec8299c92e0b68558ad80df7bb6df4b441d2b49f4", func := "corebank/corebanklaw14.TierContinuous", spec := "tierContinuous", inPlace := ["math/bits.Add64"], unfollowed := true, recurses := true, apart := false, narrowed := true }
def TierContinuousUptoSaid : Prop := tierContinuousUptoRow.holds Try.pinned (OpenSpec.upto tierContinuousSpec)

/-- 'corebanklaw14.TierAdds', WHERE WHAT IT READS IS OF BULK AT MOST 1048576: true; the input reads as it did. -/
def tierAddsUptoRow : OpenClaim := { program := "ytjjclclianbnfaa", sum := "a298417a1a3e500a63fd872ec8299c92e0b68558ad80df7bb6df4b441d2b49f4", func := "corebank/corebanklaw14.TierAdds", spec := "tierAdds", inPlace := ["math/bits.Add64"], unfollowed := true, recurses := true, apart := false, narrowed := true }
def TierAddsUptoSaid : Prop := tierAddsUptoRow.holds Try.pinned (OpenSpec.upto tierAddsSpec)

/-- 'corebanklaw14.TierFlat', WHERE WHAT IT READS IS OF BULK AT MOST 1048576: true; the input reads as it did. -/
def tierFlatUptoRow : OpenClaim := { program := "ytjjclclianbnfaa", sum := "a298417a1a3e500a63fd872ec8299c92e0b68558ad80df7bb6df4b441d2b49f4", func := "corebank/corebanklaw14.TierFlat", spec := "tierFlat", inPlace := ["math/bits.Add64"], unfollowed := true, recurses := true, apart := false, narrowed := true }
def TierFlatUptoSaid : Prop := tierFlatUptoRow.holds Try.pinned (OpenSpec.upto tierFlatSpec)

end Rows
end Go.Proofs.Ytjjclclianbnfaa
