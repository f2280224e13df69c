/-
  DERIVED. GIVEN WITH THE SEED: THE CARDS: each row of YtapfofnicbhoeaaDoorRows.lean that lists a variable, with what it lists TIED to the program's text (the seventh form; the later family's looks); each row that meets fmt, with fmt's text TOLD by the authors' own Lean function (tested against real Go, not proved from fmt's source: count such statements apart). THE CARD IS WHAT COUNTS. Prove the row's statement (the work); the ties are given (YtapfofnicbhoeaaDoorTie.lean); close each card by the builder's one call (the guide's Derived/Test/ToyasCard.lean, 'card_holds'). Laid BY PROGRAM, IN A SANDBOX (cutbox-door.mjs). By AI agents, Wed Nov 11 2026. No macro, syntax, notation, axiom, sorry.
-/
import Derived.Test.YtapfofnicbhoeaaDoorRows
import GoSem.ClaimSeven
namespace Go.Proofs.YtapfofnicbhoeaaDoor
namespace Rows

/-- THE TIED CARD OF 'corebanklaw50.ShardNumbers'. -/
def shardNumbersCard : Claim7 := { stood := { row := shardNumbersRow, standIns := [], harness := (true, "42eb530b56da37c1e007902f211b2ef2ba352a0857cd34967444599ac3df7ef4"), looks := false }, kinds := [], alts := [], laidByText := true, laidKinds := [.data, .data, .data], laidTests := true, laidLooks := .later }
def ShardNumbersCardSaid : Prop := Claim7.holds Tryd.pinned (.plain (OpenSpec.ofChange shardNumbersSpec)) shardNumbersCard

/-- THE TIED CARD OF 'corebanklaw50.ShardLists'. -/
def shardListsCard : Claim7 := { stood := { row := shardListsRow, standIns := [], harness := (true, "42eb530b56da37c1e007902f211b2ef2ba352a0857cd34967444599ac3df7ef4"), looks := false }, kinds := [], alts := [], laidByText := true, laidKinds := [.data, .data, .data], laidTests := true, laidLooks := .later }
def ShardListsCardSaid : Prop := Claim7.holds Tryd.pinned (.plain (OpenSpec.ofChange shardListsSpec)) shardListsCard

/-- THE TIED CARD OF 'corebanklaw50.ShardPartition'. -/
def shardPartitionCard : Claim7 := { stood := { row := shardPartitionRow, standIns := [], harness := (true, "42eb530b56da37c1e007902f211b2ef2ba352a0857cd34967444599ac3df7ef4"), looks := false }, kinds := [], alts := [], laidByText := true, laidKinds := [.data, .data, .data], laidTests := true, laidLooks := .later }
def ShardPartitionCardSaid : Prop := Claim7.holds Tryd.pinned (.plain (OpenSpec.ofChange shardPartitionSpec)) shardPartitionCard

/-- THE TIED CARD OF 'corebanklaw50.ShardTasks'. -/
def shardTasksCard : Claim7 := { stood := { row := shardTasksRow, standIns := [], harness := (true, "42eb530b56da37c1e007902f211b2ef2ba352a0857cd34967444599ac3df7ef4"), looks := false }, kinds := [], alts := [], laidByText := true, laidKinds := [.data, .data, .data], laidTests := true, laidLooks := .later }
def ShardTasksCardSaid : Prop := Claim7.holds Tryd.pinned (.plain (OpenSpec.ofChange shardTasksSpec)) shardTasksCard

/-- THE TIED CARD OF 'corebanklaw50.ShardWalks'. -/
def shardWalksCard : Claim7 := { stood := { row := shardWalksRow, standIns := [], harness := (true, "42eb530b56da37c1e007902f211b2ef2ba352a0857cd34967444599ac3df7ef4"), looks := false }, kinds := [], alts := [], laidByText := true, laidKinds := [.data, .data, .data], laidTests := true, laidLooks := .later }
def ShardWalksCardSaid : Prop := Claim7.holds Tryd.pinned (.plain (OpenSpec.ofChange shardWalksSpec)) shardWalksCard

/-- THE SECOND FORM's CARD OF 'corebanklaw50.ShardNumbers'. -/
def shardNumbersUptoCard : Claim7 := { stood := { row := shardNumbersUptoRow, standIns := [], harness := (true, "42eb530b56da37c1e007902f211b2ef2ba352a0857cd34967444599ac3df7ef4"), looks := false }, kinds := [], alts := [], laidByText := true, laidKinds := [.data, .data, .data], laidTests := true, laidLooks := .later }
def ShardNumbersUptoCardSaid : Prop := Claim7.holds Tryd.pinned (.plain (OpenSpec.upto shardNumbersSpec)) shardNumbersUptoCard

/-- THE SECOND FORM's CARD OF 'corebanklaw50.ShardLists'. -/
def shardListsUptoCard : Claim7 := { stood := { row := shardListsUptoRow, standIns := [], harness := (true, "42eb530b56da37c1e007902f211b2ef2ba352a0857cd34967444599ac3df7ef4"), looks := false }, kinds := [], alts := [], laidByText := true, laidKinds := [.data, .data, .data], laidTests := true, laidLooks := .later }
def ShardListsUptoCardSaid : Prop := Claim7.holds Tryd.pinned (.plain (OpenSpec.upto shardListsSpec)) shardListsUptoCard

/-- THE SECOND FORM's CARD OF 'corebanklaw50.ShardPartition'. -/
def shardPartitionUptoCard : Claim7 := { stood := { row := shardPartitionUptoRow, standIns := [], harness := (true, "42eb530b56da37c1e007902f211b2ef2ba352a0857cd34967444599ac3df7ef4"), looks := false }, kinds := [], alts := [], laidByText := true, laidKinds := [.data, .data, .data], laidTests := true, laidLooks := .later }
def ShardPartitionUptoCardSaid : Prop := Claim7.holds Tryd.pinned (.plain (OpenSpec.upto shardPartitionSpec)) shardPartitionUptoCard

/-- THE SECOND FORM's CARD OF 'corebanklaw50.ShardTasks'. -/
def shardTasksUptoCard : Claim7 := { stood := { row := shardTasksUptoRow, standIns := [], harness := (true, "42eb530b56da37c1e007902f211b2ef2ba352a0857cd34967444599ac3df7ef4"), looks := false }, kinds := [], alts := [], laidByText := true, laidKinds := [.data, .data, .data], laidTests := true, laidLooks := .later }
def ShardTasksUptoCardSaid : Prop := Claim7.holds Tryd.pinned (.plain (OpenSpec.upto shardTasksSpec)) shardTasksUptoCard

/-- THE SECOND FORM's CARD OF 'corebanklaw50.ShardWalks'. -/
def shardWalksUptoCard : Claim7 := { stood := { row := shardWalksUptoRow, standIns := [], harness := (true, "42eb530b56da37c1e007902f211b2ef2ba352a0857cd34967444599ac3df7ef4"), looks := false }, kinds := [], alts := [], laidByText := true, laidKinds := [.data, .data, .data], laidTests := true, laidLooks := .later }
def ShardWalksUptoCardSaid : Prop := Claim7.holds Tryd.pinned (.plain (OpenSpec.upto shardWalksSpec)) shardWalksUptoCard
end Rows
end Go.Proofs.YtapfofnicbhoeaaDoor
