/-
  No cell of these rows narrows 'for every input' (looked for: loops, veiled, ifaces, maps, wideKeys, modest, calm, conditions, laid).
  DERIVED. THE GIVEN ROWS OF THIS SEAT. 10 by the template 'for every input the law returns true; each argument reads behind the call as it read before'; 0 by the template 'total and deterministic' (their statements: YtkbhigdciokfkaaTotals.lean).
  GIVEN WITH THE SEED: the statements are not yours to turn. If you find one false, say at which input.
  Laid BY PROGRAM, IN A SANDBOX (cutbox-rows.mjs): the forced cells as the released guide's own fill.sh prints them over the translation b592ec598a7d08e6… (all of the seat's roots in one cut). By AI agents, Wed Nov 11 2026. No macro, syntax, notation, axiom, sorry.
-/
import Derived.Test.YtkbhigdciokfkaaChecked
import GoSem.Claim
import GoSem.ClaimJoined
import GoSem.ClaimMapViews
import Derived.JoinedTies
import Derived.KernelRfl
namespace Go.Proofs.Ytkbhigdciokfkaa
/- THE CELL 'sum', in the pinned program and in every row, IS THE sha256 OF THE DUMP (.gsa) THAT YtkbhigdciokfkaaProg.lean LOADS. Nothing in Lean hashes anything: it is a label: what it is worth is what the hold of that sum in a sandbox is worth. -/
noncomputable def Try.pinned : Pinned := { name := "ytkbhigdciokfkaa", sum := "b592ec598a7d08e61d7cc6d26d646686f86c749810f8c6d2e8ac72d7171f5ecc", checked := Try.checked }
namespace Rows
def none {H : Type} : Left H := { results := [], args := [] }

/-- 'laws.FnExactReduceCircuit': WHATEVER THE INPUT: true; the input reads as it did. -/
def fnExactReduceCircuitSpec : ChangeSpec := { name := "fnExactReduceCircuit", fn := fun _ => fun
  | [d] => { results := [.lit (.bool true)], args := [d] }
  | _ => none }
def fnExactReduceCircuitRow : OpenClaim := { program := "ytkbhigdciokfkaa", sum := "b592ec598a7d08e61d7cc6d26d646686f86c749810f8c6d2e8ac72d7171f5ecc", func := "loop.example/g00877/laws.FnExactReduceCircuit", spec := "fnExactReduceCircuit", unfollowed := true, recurses := true, apart := false }
def FnExactReduceCircuitSaid : Prop := fnExactReduceCircuitRow.holds Try.pinned (OpenSpec.ofChange fnExactReduceCircuitSpec)

/-- ITS FALSE NEIGHBOUR: 'it returns false'. Refute it at one input. -/
def fnExactReduceCircuitWrong : ChangeSpec := { name := "fnExactReduceCircuit", fn := fun _ => fun
  | [d] => { results := [.lit (.bool false)], args := [d] }
  | _ => none }
def FnExactReduceCircuitWrongFalsely : Prop := fnExactReduceCircuitRow.holds Try.pinned (OpenSpec.ofChange fnExactReduceCircuitWrong)

/-- 'laws.FnExactTreeReadCircuit': WHATEVER THE INPUT: true; the input reads as it did. -/
def fnExactTreeReadCircuitSpec : ChangeSpec := { name := "fnExactTreeReadCircuit", fn := fun _ => fun
  | [d1, d2] => { results := [.lit (.bool true)], args := [d1, d2] }
  | _ => none }
def fnExactTreeReadCircuitRow : OpenClaim := { program := "ytkbhigdciokfkaa", sum := "b592ec598a7d08e61d7cc6d26d646686f86c749810f8c6d2e8ac72d7171f5ecc", func := "loop.example/g00877/laws.FnExactTreeReadCircuit", spec := "fnExactTreeReadCircuit", unfollowed := true, recurses := true, apart := false }
def FnExactTreeReadCircuitSaid : Prop := fnExactTreeReadCircuitRow.holds Try.pinned (OpenSpec.ofChange fnExactTreeReadCircuitSpec)

/-- ITS FALSE NEIGHBOUR: 'it returns false'. Refute it at one input. -/
def fnExactTreeReadCircuitWrong : ChangeSpec := { name := "fnExactTreeReadCircuit", fn := fun _ => fun
  | [d1, d2] => { results := [.lit (.bool false)], args := [d1, d2] }
  | _ => none }
def FnExactTreeReadCircuitWrongFalsely : Prop := fnExactTreeReadCircuitRow.holds Try.pinned (OpenSpec.ofChange fnExactTreeReadCircuitWrong)

/-- 'laws.FnExactAndsOfMemory': WHATEVER THE INPUT: true; the input reads as it did. -/
def fnExactAndsOfMemorySpec : ChangeSpec := { name := "fnExactAndsOfMemory", fn := fun _ => fun
  | [d1, d2, d3] => { results := [.lit (.bool true)], args := [d1, d2, d3] }
  | _ => none }
def fnExactAndsOfMemoryRow : OpenClaim := { program := "ytkbhigdciokfkaa", sum := "b592ec598a7d08e61d7cc6d26d646686f86c749810f8c6d2e8ac72d7171f5ecc", func := "loop.example/g00877/laws.FnExactAndsOfMemory", spec := "fnExactAndsOfMemory", unfollowed := true, recurses := true, apart := false }
def FnExactAndsOfMemorySaid : Prop := fnExactAndsOfMemoryRow.holds Try.pinned (OpenSpec.ofChange fnExactAndsOfMemorySpec)

/-- ITS FALSE NEIGHBOUR: 'it returns false'. Refute it at one input. -/
def fnExactAndsOfMemoryWrong : ChangeSpec := { name := "fnExactAndsOfMemory", fn := fun _ => fun
  | [d1, d2, d3] => { results := [.lit (.bool false)], args := [d1, d2, d3] }
  | _ => none }
def FnExactAndsOfMemoryWrongFalsely : Prop := fnExactAndsOfMemoryRow.holds Try.pinned (OpenSpec.ofChange fnExactAndsOfMemoryWrong)

/-- 'laws.FnExactScanReadCircuit': WHATEVER THE INPUT: true; the input reads as it did. -/
def fnExactScanReadCircuitSpec : ChangeSpec := { name := "fnExactScanReadCircuit", fn := fun _ => fun
  | [d1, d2] => { results := [.lit (.bool true)], args := [d1, d2] }
  | _ => none }
def fnExactScanReadCircuitRow : OpenClaim := { program := "ytkbhigdciokfkaa", sum := "b592ec598a7d08e61d7cc6d26d646686f86c749810f8c6d2e8ac72d7171f5ecc", func := "loop.example/g00877/laws.FnExactScanReadCircuit", spec := "fnExactScanReadCircuit", unfollowed := true, recurses := true, apart := false }
def FnExactScanReadCircuitSaid : Prop := fnExactScanReadCircuitRow.holds Try.pinned (OpenSpec.ofChange fnExactScanReadCircuitSpec)

/-- ITS FALSE NEIGHBOUR: 'it returns false'. Refute it at one input. -/
def fnExactScanReadCircuitWrong : ChangeSpec := { name := "fnExactScanReadCircuit", fn := fun _ => fun
  | [d1, d2] => { results := [.lit (.bool false)], args := [d1, d2] }
  | _ => none }
def FnExactScanReadCircuitWrongFalsely : Prop := fnExactScanReadCircuitRow.holds Try.pinned (OpenSpec.ofChange fnExactScanReadCircuitWrong)

/-- 'laws.FnExactWriteCircuit': WHATEVER THE INPUT: true; the input reads as it did. -/
def fnExactWriteCircuitSpec : ChangeSpec := { name := "fnExactWriteCircuit", fn := fun _ => fun
  | [d1, d2] => { results := [.lit (.bool true)], args := [d1, d2] }
  | _ => none }
def fnExactWriteCircuitRow : OpenClaim := { program := "ytkbhigdciokfkaa", sum := "b592ec598a7d08e61d7cc6d26d646686f86c749810f8c6d2e8ac72d7171f5ecc", func := "loop.example/g00877/laws.FnExactWriteCircuit", spec := "fnExactWriteCircuit", unfollowed := true, recurses := true, apart := false }
def FnExactWriteCircuitSaid : Prop := fnExactWriteCircuitRow.holds Try.pinned (OpenSpec.ofChange fnExactWriteCircuitSpec)

/-- ITS FALSE NEIGHBOUR: 'it returns false'. Refute it at one input. -/
def fnExactWriteCircuitWrong : ChangeSpec := { name := "fnExactWriteCircuit", fn := fun _ => fun
  | [d1, d2] => { results := [.lit (.bool false)], args := [d1, d2] }
  | _ => none }
def FnExactWriteCircuitWrongFalsely : Prop := fnExactWriteCircuitRow.holds Try.pinned (OpenSpec.ofChange fnExactWriteCircuitWrong)

/-- 'laws.FnExactTurnCircuit': WHATEVER THE INPUT: true; the input reads as it did. -/
def fnExactTurnCircuitSpec : ChangeSpec := { name := "fnExactTurnCircuit", fn := fun _ => fun
  | [d1, d2] => { results := [.lit (.bool true)], args := [d1, d2] }
  | _ => none }
def fnExactTurnCircuitRow : OpenClaim := { program := "ytkbhigdciokfkaa", sum := "b592ec598a7d08e61d7cc6d26d646686f86c749810f8c6d2e8ac72d7171f5ecc", func := "loop.example/g00877/laws.FnExactTurnCircuit", spec := "fnExactTurnCircuit", unfollowed := true, recurses := true, apart := false }
def FnExactTurnCircuitSaid : Prop := fnExactTurnCircuitRow.holds Try.pinned (OpenSpec.ofChange fnExactTurnCircuitSpec)

/-- ITS FALSE NEIGHBOUR: 'it returns false'. Refute it at one input. -/
def fnExactTurnCircuitWrong : ChangeSpec := { name := "fnExactTurnCircuit", fn := fun _ => fun
  | [d1, d2] => { results := [.lit (.bool false)], args := [d1, d2] }
  | _ => none }
def FnExactTurnCircuitWrongFalsely : Prop := fnExactTurnCircuitRow.holds Try.pinned (OpenSpec.ofChange fnExactTurnCircuitWrong)

/-- 'laws.FnExactSumToBits': WHATEVER THE INPUT: true; the input reads as it did. -/
def fnExactSumToBitsSpec : ChangeSpec := { name := "fnExactSumToBits", fn := fun _ => fun
  | [d1, d2, d3] => { results := [.lit (.bool true)], args := [d1, d2, d3] }
  | _ => none }
def fnExactSumToBitsRow : OpenClaim := { program := "ytkbhigdciokfkaa", sum := "b592ec598a7d08e61d7cc6d26d646686f86c749810f8c6d2e8ac72d7171f5ecc", func := "loop.example/g00877/laws.FnExactSumToBits", spec := "fnExactSumToBits", unfollowed := true, recurses := true, apart := false }
def FnExactSumToBitsSaid : Prop := fnExactSumToBitsRow.holds Try.pinned (OpenSpec.ofChange fnExactSumToBitsSpec)

/-- ITS FALSE NEIGHBOUR: 'it returns false'. Refute it at one input. -/
def fnExactSumToBitsWrong : ChangeSpec := { name := "fnExactSumToBits", fn := fun _ => fun
  | [d1, d2, d3] => { results := [.lit (.bool false)], args := [d1, d2, d3] }
  | _ => none }
def FnExactSumToBitsWrongFalsely : Prop := fnExactSumToBitsRow.holds Try.pinned (OpenSpec.ofChange fnExactSumToBitsWrong)

/-- 'laws.FnExactWriteCell': WHATEVER THE INPUT: true; the input reads as it did. -/
def fnExactWriteCellSpec : ChangeSpec := { name := "fnExactWriteCell", fn := fun _ => fun
  | [d1, d2, d3, d4] => { results := [.lit (.bool true)], args := [d1, d2, d3, d4] }
  | _ => none }
def fnExactWriteCellRow : OpenClaim := { program := "ytkbhigdciokfkaa", sum := "b592ec598a7d08e61d7cc6d26d646686f86c749810f8c6d2e8ac72d7171f5ecc", func := "loop.example/g00877/laws.FnExactWriteCell", spec := "fnExactWriteCell", unfollowed := true, recurses := true, apart := false }
def FnExactWriteCellSaid : Prop := fnExactWriteCellRow.holds Try.pinned (OpenSpec.ofChange fnExactWriteCellSpec)

/-- ITS FALSE NEIGHBOUR: 'it returns false'. Refute it at one input. -/
def fnExactWriteCellWrong : ChangeSpec := { name := "fnExactWriteCell", fn := fun _ => fun
  | [d1, d2, d3, d4] => { results := [.lit (.bool false)], args := [d1, d2, d3, d4] }
  | _ => none }
def FnExactWriteCellWrongFalsely : Prop := fnExactWriteCellRow.holds Try.pinned (OpenSpec.ofChange fnExactWriteCellWrong)

/-- 'laws.FnExactTurnCells': WHATEVER THE INPUT: true; the input reads as it did. -/
def fnExactTurnCellsSpec : ChangeSpec := { name := "fnExactTurnCells", fn := fun _ => fun
  | [d1, d2, d3] => { results := [.lit (.bool true)], args := [d1, d2, d3] }
  | _ => none }
def fnExactTurnCellsRow : OpenClaim := { program := "ytkbhigdciokfkaa", sum := "b592ec598a7d08e61d7cc6d26d646686f86c749810f8c6d2e8ac72d7171f5ecc", func := "loop.example/g00877/laws.FnExactTurnCells", spec := "fnExactTurnCells", unfollowed := true, recurses := true, apart := false }
def FnExactTurnCellsSaid : Prop := fnExactTurnCellsRow.holds Try.pinned (OpenSpec.ofChange fnExactTurnCellsSpec)

/-- ITS FALSE NEIGHBOUR: 'it returns false'. Refute it at one input. -/
def fnExactTurnCellsWrong : ChangeSpec := { name := "fnExactTurnCells", fn := fun _ => fun
  | [d1, d2, d3] => { results := [.lit (.bool false)], args := [d1, d2, d3] }
  | _ => none }
def FnExactTurnCellsWrongFalsely : Prop := fnExactTurnCellsRow.holds Try.pinned (OpenSpec.ofChange fnExactTurnCellsWrong)

/-- 'laws.FnExactReadCell': WHATEVER THE INPUT: true; the input reads as it did. -/
def fnExactReadCellSpec : ChangeSpec := { name := "fnExactReadCell", fn := fun _ => fun
  | [d1, d2, d3, d4] => { results := [.lit (.bool true)], args := [d1, d2, d3, d4] }
  | _ => none }
def fnExactReadCellRow : OpenClaim := { program := "ytkbhigdciokfkaa", sum := "b592ec598a7d08e61d7cc6d26d646686f86c749810f8c6d2e8ac72d7171f5ecc", func := "loop.example/g00877/laws.FnExactReadCell", spec := "fnExactReadCell", unfollowed := true, recurses := true, apart := false }
def FnExactReadCellSaid : Prop := fnExactReadCellRow.holds Try.pinned (OpenSpec.ofChange fnExactReadCellSpec)

/-- ITS FALSE NEIGHBOUR: 'it returns false'. Refute it at one input. -/
def fnExactReadCellWrong : ChangeSpec := { name := "fnExactReadCell", fn := fun _ => fun
  | [d1, d2, d3, d4] => { results := [.lit (.bool false)], args := [d1, d2, d3, d4] }
  | _ => none }
def FnExactReadCellWrongFalsely : Prop := fnExactReadCellRow.holds Try.pinned (OpenSpec.ofChange fnExactReadCellWrong)

/- THE SECOND FORM. 'bulk': how many values and letters a reading holds, each counted each time it is reached (what is shared counts as often as it is met; a slice's spare places count too). A statement '..UptoSaid' is the law's where the arguments, and the package variables that the reading takes, are together of bulk at most 1048576: NARROWER than '..Said'. Prove '..Said' where nothing that the law and all that it calls make is longer than what came in: it says more and counts as full. Else prove '..UptoSaid'. A law counts once. -/
mutual
def uptoBulk {H : Type} : DataW H → Nat
  | .lit (.string bytes) => bytes.length + 1
  | .lit _ => 1
  | .nil => 1
  | .ptr d => uptoBulk d + 1
  | .slice elems spare => uptoBulkAll elems + uptoBulkAll spare + 1
  | .agg parts => uptoBulkAll parts + 1
  | .iface _ d => uptoBulk d + 1
  | .map entries => uptoBulkEntries entries + 1
  | .held _ => 1
def uptoBulkAll {H : Type} : List (DataW H) → Nat
  | [] => 0
  | d :: r => uptoBulk d + uptoBulkAll r
def uptoBulkEntries {H : Type} : List (Lit × DataW H) → Nat
  | [] => 0
  | x :: r => uptoBulkEntry x + uptoBulkEntries r
def uptoBulkEntry {H : Type} : Lit × DataW H → Nat
  | (.string bytes, d) => bytes.length + uptoBulk d + 1
  | (_, d) => uptoBulk d + 1
 end
def uptoSmall : (H : Type) → List (DataW H) → Bool := fun _ ds => decide (uptoBulkAll ds ≤ 1048576)
def OpenSpec.upto (s : _root_.Go.ChangeSpec) : _root_.Go.OpenSpec := { _root_.Go.OpenSpec.ofChange s with cond := some uptoSmall }

/-- 'laws.FnExactReduceCircuit', WHERE WHAT IT READS IS OF BULK AT MOST 1048576: true; the input reads as it did. -/
def fnExactReduceCircuitUptoRow : OpenClaim := { program := "ytkbhigdciokfkaa", sum := "b592ec598a7d08e61d7cc6d26d646686f86c749810f8c6d2e8ac72d7171f5ecc", func := "loop.example/g00877/laws.FnExactReduceCircuit", spec := "fnExactReduceCircuit", unfollowed := true, recurses := true, apart := false, narrowed := true }
def FnExactReduceCircuitUptoSaid : Prop := fnExactReduceCircuitUptoRow.holds Try.pinned (OpenSpec.upto fnExactReduceCircuitSpec)

/-- 'laws.FnExactTreeReadCircuit', WHERE WHAT IT READS IS OF BULK AT MOST 1048576: true; the input reads as it did. -/
def fnExactTreeReadCircuitUptoRow : OpenClaim := { program := "ytkbhigdciokfkaa", sum := "b592ec598a7d08e61d7cc6d26d646686f86c749810f8c6d2e8ac72d7171f5ecc", func := "loop.example/g00877/laws.FnExactTreeReadCircuit", spec := "fnExactTreeReadCircuit", unfollowed := true, recurses := true, apart := false, narrowed := true }
def FnExactTreeReadCircuitUptoSaid : Prop := fnExactTreeReadCircuitUptoRow.holds Try.pinned (OpenSpec.upto fnExactTreeReadCircuitSpec)

/-- 'laws.FnExactAndsOfMemory', WHERE WHAT IT READS IS OF BULK AT MOST 1048576: true; the input reads as it did. -/
def fnExactAndsOfMemoryUptoRow : OpenClaim := { program := "ytkbhigdciokfkaa", sum := "b592ec598a7d08e61d7cc6d26d646686f86c749810f8c6d2e8ac72d7171f5ecc", func := "loop.example/g00877/laws.FnExactAndsOfMemory", spec := "fnExactAndsOfMemory", unfollowed := true, recurses := true, apart := false, narrowed := true }
def FnExactAndsOfMemoryUptoSaid : Prop := fnExactAndsOfMemoryUptoRow.holds Try.pinned (OpenSpec.upto fnExactAndsOfMemorySpec)

/-- 'laws.FnExactScanReadCircuit', WHERE WHAT IT READS IS OF BULK AT MOST 1048576: true; the input reads as it did. -/
def fnExactScanReadCircuitUptoRow : OpenClaim := { program := "ytkbhigdciokfkaa", sum := "b592ec598a7d08e61d7cc6d26d646686f86c749810f8c6d2e8ac72d7171f5ecc", func := "loop.example/g00877/laws.FnExactScanReadCircuit", spec := "fnExactScanReadCircuit", unfollowed := true, recurses := true, apart := false, narrowed := true }
def FnExactScanReadCircuitUptoSaid : Prop := fnExactScanReadCircuitUptoRow.holds Try.pinned (OpenSpec.upto fnExactScanReadCircuitSpec)

/-- 'laws.FnExactWriteCircuit', WHERE WHAT IT READS IS OF BULK AT MOST 1048576: true; the input reads as it did. -/
def fnExactWriteCircuitUptoRow : OpenClaim := { program := "ytkbhigdciokfkaa", sum := "b592ec598a7d08e61d7cc6d26d646686f86c749810f8c6d2e8ac72d7171f5ecc", func := "loop.example/g00877/laws.FnExactWriteCircuit", spec := "fnExactWriteCircuit", unfollowed := true, recurses := true, apart := false, narrowed := true }
def FnExactWriteCircuitUptoSaid : Prop := fnExactWriteCircuitUptoRow.holds Try.pinned (OpenSpec.upto fnExactWriteCircuitSpec)

/-- 'laws.FnExactTurnCircuit', WHERE WHAT IT READS IS OF BULK AT MOST 1048576: true; the input reads as it did. -/
def fnExactTurnCircuitUptoRow : OpenClaim := { program := "ytkbhigdciokfkaa", sum := "b592ec598a7d08e61d7cc6d26d646686f86c749810f8c6d2e8ac72d7171f5ecc", func := "loop.example/g00877/laws.FnExactTurnCircuit", spec := "fnExactTurnCircuit", unfollowed := true, recurses := true, apart := false, narrowed := true }
def FnExactTurnCircuitUptoSaid : Prop := fnExactTurnCircuitUptoRow.holds Try.pinned (OpenSpec.upto fnExactTurnCircuitSpec)

/-- 'laws.FnExactSumToBits', WHERE WHAT IT READS IS OF BULK AT MOST 1048576: true; the input reads as it did. -/
def fnExactSumToBitsUptoRow : OpenClaim := { program := "ytkbhigdciokfkaa", sum := "b592ec598a7d08e61d7cc6d26d646686f86c749810f8c6d2e8ac72d7171f5ecc", func := "loop.example/g00877/laws.FnExactSumToBits", spec := "fnExactSumToBits", unfollowed := true, recurses := true, apart := false, narrowed := true }
def FnExactSumToBitsUptoSaid : Prop := fnExactSumToBitsUptoRow.holds Try.pinned (OpenSpec.upto fnExactSumToBitsSpec)

/-- 'laws.FnExactWriteCell', WHERE WHAT IT READS IS OF BULK AT MOST 1048576: true; the input reads as it did. -/
def fnExactWriteCellUptoRow : OpenClaim := { program := "ytkbhigdciokfkaa", sum := "b592ec598a7d08e61d7cc6d26d646686f86c749810f8c6d2e8ac72d7171f5ecc", func := "loop.example/g00877/laws.FnExactWriteCell", spec := "fnExactWriteCell", unfollowed := true, recurses := true, apart := false, narrowed := true }
def FnExactWriteCellUptoSaid : Prop := fnExactWriteCellUptoRow.holds Try.pinned (OpenSpec.upto fnExactWriteCellSpec)

/-- 'laws.FnExactTurnCells', WHERE WHAT IT READS IS OF BULK AT MOST 1048576: true; the input reads as it did. -/
def fnExactTurnCellsUptoRow : OpenClaim := { program := "ytkbhigdciokfkaa", sum := "b592ec598a7d08e61d7cc6d26d646686f86c749810f8c6d2e8ac72d7171f5ecc", func := "loop.example/g00877/laws.FnExactTurnCells", spec := "fnExactTurnCells", unfollowed := true, recurses := true, apart := false, narrowed := true }
def FnExactTurnCellsUptoSaid : Prop := fnExactTurnCellsUptoRow.holds Try.pinned (OpenSpec.upto fnExactTurnCellsSpec)

/-- 'laws.FnExactReadCell', WHERE WHAT IT READS IS OF BULK AT MOST 1048576: true; the input reads as it did. -/
def fnExactReadCellUptoRow : OpenClaim := { program := "ytkbhigdciokfkaa", sum := "b592ec598a7d08e61d7cc6d26d646686f86c749810f8c6d2e8ac72d7171f5ecc", func := "loop.example/g00877/laws.FnExactReadCell", spec := "fnExactReadCell", unfollowed := true, recurses := true, apart := false, narrowed := true }
def FnExactReadCellUptoSaid : Prop := fnExactReadCellUptoRow.holds Try.pinned (OpenSpec.upto fnExactReadCellSpec)

end Rows
end Go.Proofs.Ytkbhigdciokfkaa
