/-
  No cell of these rows narrows 'for every input' (looked for: loops, veiled, ifaces, maps, wideKeys, modest, calm, conditions, laid).
  DERIVED. THE GIVEN ROWS OF THIS SEAT. 9 by the template 'for every input the law returns true; each argument reads behind the call as it read before'; 0 by the template 'total and deterministic' (their statements: YtjnblfnfegjbfaaTotals.lean).
  GIVEN WITH THE SEED: the statements are not yours to turn. If you find one false, say at which input.
  Laid BY PROGRAM, IN A SANDBOX (cutbox-rows.mjs): the forced cells as the released guide's own fill.sh prints them over the translation c72f16058e688d81… (all of the seat's roots in one cut). By AI agents, Wed Nov 11 2026. No macro, syntax, notation, axiom, sorry.
-/
import Derived.Test.YtjnblfnfegjbfaaChecked
import GoSem.Claim
import GoSem.ClaimJoined
import GoSem.ClaimMapViews
import Derived.JoinedTies
import Derived.KernelRfl
namespace Go.Proofs.Ytjnblfnfegjbfaa
/- THE CELL 'sum', in the pinned program and in every row, IS THE sha256 OF THE DUMP (.gsa) THAT YtjnblfnfegjbfaaProg.lean LOADS. Nothing in Lean hashes anything: it is a label: what it is worth is what the hold of that sum in a sandbox is worth. -/
noncomputable def Try.pinned : Pinned := { name := "ytjnblfnfegjbfaa", sum := "c72f16058e688d813a1f5af2bb16a2f04e22b70fb96b0791e5368ebfa8945ea7", checked := Try.checked }
namespace Rows
def none {H : Type} : Left H := { results := [], args := [] }

/-- 'laws.FnExactLocalGate': WHATEVER THE INPUT: true; the input reads as it did. -/
def fnExactLocalGateSpec : ChangeSpec := { name := "fnExactLocalGate", fn := fun _ => fun
  | [d1, d2, d3, d4] => { results := [.lit (.bool true)], args := [d1, d2, d3, d4] }
  | _ => none }
def fnExactLocalGateRow : OpenClaim := { program := "ytjnblfnfegjbfaa", sum := "c72f16058e688d813a1f5af2bb16a2f04e22b70fb96b0791e5368ebfa8945ea7", func := "loop.example/g00877/laws.FnExactLocalGate", spec := "fnExactLocalGate", unfollowed := true, recurses := true, apart := false }
def FnExactLocalGateSaid : Prop := fnExactLocalGateRow.holds Try.pinned (OpenSpec.ofChange fnExactLocalGateSpec)

/-- ITS FALSE NEIGHBOUR: 'it returns false'. Refute it at one input. -/
def fnExactLocalGateWrong : ChangeSpec := { name := "fnExactLocalGate", fn := fun _ => fun
  | [d1, d2, d3, d4] => { results := [.lit (.bool false)], args := [d1, d2, d3, d4] }
  | _ => none }
def FnExactLocalGateWrongFalsely : Prop := fnExactLocalGateRow.holds Try.pinned (OpenSpec.ofChange fnExactLocalGateWrong)

/-- 'laws.FnExactTrafficOf': WHATEVER THE INPUT: true; the input reads as it did. -/
def fnExactTrafficOfSpec : ChangeSpec := { name := "fnExactTrafficOf", fn := fun _ => fun
  | [d] => { results := [.lit (.bool true)], args := [d] }
  | _ => none }
def fnExactTrafficOfRow : OpenClaim := { program := "ytjnblfnfegjbfaa", sum := "c72f16058e688d813a1f5af2bb16a2f04e22b70fb96b0791e5368ebfa8945ea7", func := "loop.example/g00877/laws.FnExactTrafficOf", spec := "fnExactTrafficOf", unfollowed := true, recurses := true, apart := false }
def FnExactTrafficOfSaid : Prop := fnExactTrafficOfRow.holds Try.pinned (OpenSpec.ofChange fnExactTrafficOfSpec)

/-- ITS FALSE NEIGHBOUR: 'it returns false'. Refute it at one input. -/
def fnExactTrafficOfWrong : ChangeSpec := { name := "fnExactTrafficOf", fn := fun _ => fun
  | [d] => { results := [.lit (.bool false)], args := [d] }
  | _ => none }
def FnExactTrafficOfWrongFalsely : Prop := fnExactTrafficOfRow.holds Try.pinned (OpenSpec.ofChange fnExactTrafficOfWrong)

/-- 'laws.FnExactInputShares': WHATEVER THE INPUT: true; the input reads as it did. -/
def fnExactInputSharesSpec : ChangeSpec := { name := "fnExactInputShares", fn := fun _ => fun
  | [d1, d2, d3, d4] => { results := [.lit (.bool true)], args := [d1, d2, d3, d4] }
  | _ => none }
def fnExactInputSharesRow : OpenClaim := { program := "ytjnblfnfegjbfaa", sum := "c72f16058e688d813a1f5af2bb16a2f04e22b70fb96b0791e5368ebfa8945ea7", func := "loop.example/g00877/laws.FnExactInputShares", spec := "fnExactInputShares", unfollowed := true, recurses := true, apart := false }
def FnExactInputSharesSaid : Prop := fnExactInputSharesRow.holds Try.pinned (OpenSpec.ofChange fnExactInputSharesSpec)

/-- ITS FALSE NEIGHBOUR: 'it returns false'. Refute it at one input. -/
def fnExactInputSharesWrong : ChangeSpec := { name := "fnExactInputShares", fn := fun _ => fun
  | [d1, d2, d3, d4] => { results := [.lit (.bool false)], args := [d1, d2, d3, d4] }
  | _ => none }
def FnExactInputSharesWrongFalsely : Prop := fnExactInputSharesRow.holds Try.pinned (OpenSpec.ofChange fnExactInputSharesWrong)

/-- 'laws.FnTriples': WHATEVER THE INPUT: true; the input reads as it did. -/
def fnTriplesSpec : ChangeSpec := { name := "fnTriples", fn := fun _ => fun
  | [d1, d2] => { results := [.lit (.bool true)], args := [d1, d2] }
  | _ => none }
def fnTriplesRow : OpenClaim := { program := "ytjnblfnfegjbfaa", sum := "c72f16058e688d813a1f5af2bb16a2f04e22b70fb96b0791e5368ebfa8945ea7", func := "loop.example/g00877/laws.FnTriples", spec := "fnTriples", unfollowed := true, recurses := true, apart := false }
def FnTriplesSaid : Prop := fnTriplesRow.holds Try.pinned (OpenSpec.ofChange fnTriplesSpec)

/-- ITS FALSE NEIGHBOUR: 'it returns false'. Refute it at one input. -/
def fnTriplesWrong : ChangeSpec := { name := "fnTriples", fn := fun _ => fun
  | [d1, d2] => { results := [.lit (.bool false)], args := [d1, d2] }
  | _ => none }
def FnTriplesWrongFalsely : Prop := fnTriplesRow.holds Try.pinned (OpenSpec.ofChange fnTriplesWrong)

/-- 'laws.FnExactWireShares': WHATEVER THE INPUT: true; the input reads as it did. -/
def fnExactWireSharesSpec : ChangeSpec := { name := "fnExactWireShares", fn := fun _ => fun
  | [d1, d2, d3, d4] => { results := [.lit (.bool true)], args := [d1, d2, d3, d4] }
  | _ => none }
def fnExactWireSharesRow : OpenClaim := { program := "ytjnblfnfegjbfaa", sum := "c72f16058e688d813a1f5af2bb16a2f04e22b70fb96b0791e5368ebfa8945ea7", func := "loop.example/g00877/laws.FnExactWireShares", spec := "fnExactWireShares", unfollowed := true, recurses := true, apart := false }
def FnExactWireSharesSaid : Prop := fnExactWireSharesRow.holds Try.pinned (OpenSpec.ofChange fnExactWireSharesSpec)

/-- ITS FALSE NEIGHBOUR: 'it returns false'. Refute it at one input. -/
def fnExactWireSharesWrong : ChangeSpec := { name := "fnExactWireShares", fn := fun _ => fun
  | [d1, d2, d3, d4] => { results := [.lit (.bool false)], args := [d1, d2, d3, d4] }
  | _ => none }
def FnExactWireSharesWrongFalsely : Prop := fnExactWireSharesRow.holds Try.pinned (OpenSpec.ofChange fnExactWireSharesWrong)

/-- 'laws.FnExactRunWithFault': WHATEVER THE INPUT: true; the input reads as it did. -/
def fnExactRunWithFaultSpec : ChangeSpec := { name := "fnExactRunWithFault", fn := fun _ => fun
  | [d1, d2, d3, d4, d5, d6] => { results := [.lit (.bool true)], args := [d1, d2, d3, d4, d5, d6] }
  | _ => none }
def fnExactRunWithFaultRow : OpenClaim := { program := "ytjnblfnfegjbfaa", sum := "c72f16058e688d813a1f5af2bb16a2f04e22b70fb96b0791e5368ebfa8945ea7", func := "loop.example/g00877/laws.FnExactRunWithFault", spec := "fnExactRunWithFault", unfollowed := true, recurses := true, apart := false }
def FnExactRunWithFaultSaid : Prop := fnExactRunWithFaultRow.holds Try.pinned (OpenSpec.ofChange fnExactRunWithFaultSpec)

/-- ITS FALSE NEIGHBOUR: 'it returns false'. Refute it at one input. -/
def fnExactRunWithFaultWrong : ChangeSpec := { name := "fnExactRunWithFault", fn := fun _ => fun
  | [d1, d2, d3, d4, d5, d6] => { results := [.lit (.bool false)], args := [d1, d2, d3, d4, d5, d6] }
  | _ => none }
def FnExactRunWithFaultWrongFalsely : Prop := fnExactRunWithFaultRow.holds Try.pinned (OpenSpec.ofChange fnExactRunWithFaultWrong)

/-- 'laws.FnExactRunShared': WHATEVER THE INPUT: true; the input reads as it did. -/
def fnExactRunSharedSpec : ChangeSpec := { name := "fnExactRunShared", fn := fun _ => fun
  | [d1, d2, d3, d4] => { results := [.lit (.bool true)], args := [d1, d2, d3, d4] }
  | _ => none }
def fnExactRunSharedRow : OpenClaim := { program := "ytjnblfnfegjbfaa", sum := "c72f16058e688d813a1f5af2bb16a2f04e22b70fb96b0791e5368ebfa8945ea7", func := "loop.example/g00877/laws.FnExactRunShared", spec := "fnExactRunShared", unfollowed := true, recurses := true, apart := false }
def FnExactRunSharedSaid : Prop := fnExactRunSharedRow.holds Try.pinned (OpenSpec.ofChange fnExactRunSharedSpec)

/-- ITS FALSE NEIGHBOUR: 'it returns false'. Refute it at one input. -/
def fnExactRunSharedWrong : ChangeSpec := { name := "fnExactRunShared", fn := fun _ => fun
  | [d1, d2, d3, d4] => { results := [.lit (.bool false)], args := [d1, d2, d3, d4] }
  | _ => none }
def FnExactRunSharedWrongFalsely : Prop := fnExactRunSharedRow.holds Try.pinned (OpenSpec.ofChange fnExactRunSharedWrong)

/-- 'laws.FnExactOpenedPairs': WHATEVER THE INPUT: true; the input reads as it did. -/
def fnExactOpenedPairsSpec : ChangeSpec := { name := "fnExactOpenedPairs", fn := fun _ => fun
  | [d1, d2, d3, d4] => { results := [.lit (.bool true)], args := [d1, d2, d3, d4] }
  | _ => none }
def fnExactOpenedPairsRow : OpenClaim := { program := "ytjnblfnfegjbfaa", sum := "c72f16058e688d813a1f5af2bb16a2f04e22b70fb96b0791e5368ebfa8945ea7", func := "loop.example/g00877/laws.FnExactOpenedPairs", spec := "fnExactOpenedPairs", unfollowed := true, recurses := true, apart := false }
def FnExactOpenedPairsSaid : Prop := fnExactOpenedPairsRow.holds Try.pinned (OpenSpec.ofChange fnExactOpenedPairsSpec)

/-- ITS FALSE NEIGHBOUR: 'it returns false'. Refute it at one input. -/
def fnExactOpenedPairsWrong : ChangeSpec := { name := "fnExactOpenedPairs", fn := fun _ => fun
  | [d1, d2, d3, d4] => { results := [.lit (.bool false)], args := [d1, d2, d3, d4] }
  | _ => none }
def FnExactOpenedPairsWrongFalsely : Prop := fnExactOpenedPairsRow.holds Try.pinned (OpenSpec.ofChange fnExactOpenedPairsWrong)

/-- 'laws.FnSharedSums': WHATEVER THE INPUT: true; the input reads as it did. -/
def fnSharedSumsSpec : ChangeSpec := { name := "fnSharedSums", fn := fun _ => fun
  | [d1, d2] => { results := [.lit (.bool true)], args := [d1, d2] }
  | _ => none }
def fnSharedSumsRow : OpenClaim := { program := "ytjnblfnfegjbfaa", sum := "c72f16058e688d813a1f5af2bb16a2f04e22b70fb96b0791e5368ebfa8945ea7", func := "loop.example/g00877/laws.FnSharedSums", spec := "fnSharedSums", unfollowed := true, recurses := true, apart := false }
def FnSharedSumsSaid : Prop := fnSharedSumsRow.holds Try.pinned (OpenSpec.ofChange fnSharedSumsSpec)

/-- ITS FALSE NEIGHBOUR: 'it returns false'. Refute it at one input. -/
def fnSharedSumsWrong : ChangeSpec := { name := "fnSharedSums", fn := fun _ => fun
  | [d1, d2] => { results := [.lit (.bool false)], args := [d1, d2] }
  | _ => none }
def FnSharedSumsWrongFalsely : Prop := fnSharedSumsRow.holds Try.pinned (OpenSpec.ofChange fnSharedSumsWrong)

/- THE SECOND FORM. 'bulk': how many values and letters a reading holds, each counted each time it is reached (what is shared counts as often as it is met; a slice's spare places count too). A statement '..UptoSaid' is the law's where the arguments, and the package variables that the reading takes, are together of bulk at most 1048576: NARROWER than '..Said'. Prove '..Said' where nothing that the law and all that it calls make is longer than what came in: it says more and counts as full. Else prove '..UptoSaid'. A law counts once. -/
mutual
def uptoBulk {H : Type} : DataW H → Nat
  | .lit (.string bytes) => bytes.length + 1
  | .lit _ => 1
  | .nil => 1
  | .ptr d => uptoBulk d + 1
  | .slice elems spare => uptoBulkAll elems + uptoBulkAll spare + 1
  | .agg parts => uptoBulkAll parts + 1
  | .iface _ d => uptoBulk d + 1
  | .map entries => uptoBulkEntries entries + 1
  | .held _ => 1
def uptoBulkAll {H : Type} : List (DataW H) → Nat
  | [] => 0
  | d :: r => uptoBulk d + uptoBulkAll r
def uptoBulkEntries {H : Type} : List (Lit × DataW H) → Nat
  | [] => 0
  | x :: r => uptoBulkEntry x + uptoBulkEntries r
def uptoBulkEntry {H : Type} : Lit × DataW H → Nat
  | (.string bytes, d) => bytes.length + uptoBulk d + 1
  | (_, d) => uptoBulk d + 1
 end
def uptoSmall : (H : Type) → List (DataW H) → Bool := fun _ ds => decide (uptoBulkAll ds ≤ 1048576)
def OpenSpec.upto (s : _root_.Go.ChangeSpec) : _root_.Go.OpenSpec := { _root_.Go.OpenSpec.ofChange s with cond := some uptoSmall }

/-- 'laws.FnExactLocalGate', WHERE WHAT IT READS IS OF BULK AT MOST 1048576: true; the input reads as it did. -/
def fnExactLocalGateUptoRow : OpenClaim := { program := "ytjnblfnfegjbfaa", sum := "c72f16058e688d813a1f5af2bb16a2f04e22b70fb96b0791e5368ebfa8945ea7", func := "loop.example/g00877/laws.FnExactLocalGate", spec := "fnExactLocalGate", unfollowed := true, recurses := true, apart := false, narrowed := true }
def FnExactLocalGateUptoSaid : Prop := fnExactLocalGateUptoRow.holds Try.pinned (OpenSpec.upto fnExactLocalGateSpec)

/-- 'laws.FnExactTrafficOf', WHERE WHAT IT READS IS OF BULK AT MOST 1048576: true; the input reads as it did. -/
def fnExactTrafficOfUptoRow : OpenClaim := { program := "ytjnblfnfegjbfaa", sum := "c72f16058e688d813a1f5af2bb16a2f04e22b70fb96b0791e5368ebfa8945ea7", func := "loop.example/g00877/laws.FnExactTrafficOf", spec := "fnExactTrafficOf", unfollowed := true, recurses := true, apart := false, narrowed := true }
def FnExactTrafficOfUptoSaid : Prop := fnExactTrafficOfUptoRow.holds Try.pinned (OpenSpec.upto fnExactTrafficOfSpec)

/-- 'laws.FnExactInputShares', WHERE WHAT IT READS IS OF BULK AT MOST 1048576: true; the input reads as it did. -/
def fnExactInputSharesUptoRow : OpenClaim := { program := "ytjnblfnfegjbfaa", sum := "c72f16058e688d813a1f5af2bb16a2f04e22b70fb96b0791e5368ebfa8945ea7", func := "loop.example/g00877/laws.FnExactInputShares", spec := "fnExactInputShares", unfollowed := true, recurses := true, apart := false, narrowed := true }
def FnExactInputSharesUptoSaid : Prop := fnExactInputSharesUptoRow.holds Try.pinned (OpenSpec.upto fnExactInputSharesSpec)

/-- 'laws.FnTriples', WHERE WHAT IT READS IS OF BULK AT MOST 1048576: true; the input reads as it did. -/
def fnTriplesUptoRow : OpenClaim := { program := "ytjnblfnfegjbfaa", sum := "c72f16058e688d813a1f5af2bb16a2f04e22b70fb96b0791e5368ebfa8945ea7", func := "loop.example/g00877/laws.FnTriples", spec := "fnTriples", unfollowed := true, recurses := true, apart := false, narrowed := true }
def FnTriplesUptoSaid : Prop := fnTriplesUptoRow.holds Try.pinned (OpenSpec.upto fnTriplesSpec)

/-- 'laws.FnExactWireShares', WHERE WHAT IT READS IS OF BULK AT MOST 1048576: true; the input reads as it did. -/
def fnExactWireSharesUptoRow : OpenClaim := { program := "ytjnblfnfegjbfaa", sum := "c72f16058e688d813a1f5af2bb16a2f04e22b70fb96b0791e5368ebfa8945ea7", func := "loop.example/g00877/laws.FnExactWireShares", spec := "fnExactWireShares", unfollowed := true, recurses := true, apart := false, narrowed := true }
def FnExactWireSharesUptoSaid : Prop := fnExactWireSharesUptoRow.holds Try.pinned (OpenSpec.upto fnExactWireSharesSpec)

/-- 'laws.FnExactRunWithFault', WHERE WHAT IT READS IS OF BULK AT MOST 1048576: true; the input reads as it did. -/
def fnExactRunWithFaultUptoRow : OpenClaim := { program := "ytjnblfnfegjbfaa", sum := "c72f16058e688d813a1f5af2bb16a2f04e22b70fb96b0791e5368ebfa8945ea7", func := "loop.example/g00877/laws.FnExactRunWithFault", spec := "fnExactRunWithFault", unfollowed := true, recurses := true, apart := false, narrowed := true }
def FnExactRunWithFaultUptoSaid : Prop := fnExactRunWithFaultUptoRow.holds Try.pinned (OpenSpec.upto fnExactRunWithFaultSpec)

/-- 'laws.FnExactRunShared', WHERE WHAT IT READS IS OF BULK AT MOST 1048576: true; the input reads as it did. -/
def fnExactRunSharedUptoRow : OpenClaim := { program := "ytjnblfnfegjbfaa", sum := "c72f16058e688d813a1f5af2bb16a2f04e22b70fb96b0791e5368ebfa8945ea7", func := "loop.example/g00877/laws.FnExactRunShared", spec := "fnExactRunShared", unfollowed := true, recurses := true, apart := false, narrowed := true }
def FnExactRunSharedUptoSaid : Prop := fnExactRunSharedUptoRow.holds Try.pinned (OpenSpec.upto fnExactRunSharedSpec)

/-- 'laws.FnExactOpenedPairs', WHERE WHAT IT READS IS OF BULK AT MOST 1048576: true; the input reads as it did. -/
def fnExactOpenedPairsUptoRow : OpenClaim := { program := "ytjnblfnfegjbfaa", sum := "c72f16058e688d813a1f5af2bb16a2f04e22b70fb96b0791e5368ebfa8945ea7", func := "loop.example/g00877/laws.FnExactOpenedPairs", spec := "fnExactOpenedPairs", unfollowed := true, recurses := true, apart := false, narrowed := true }
def FnExactOpenedPairsUptoSaid : Prop := fnExactOpenedPairsUptoRow.holds Try.pinned (OpenSpec.upto fnExactOpenedPairsSpec)

/-- 'laws.FnSharedSums', WHERE WHAT IT READS IS OF BULK AT MOST 1048576: true; the input reads as it did. -/
def fnSharedSumsUptoRow : OpenClaim := { program := "ytjnblfnfegjbfaa", sum := "c72f16058e688d813a1f5af2bb16a2f04e22b70fb96b0791e5368ebfa8945ea7", func := "loop.example/g00877/laws.FnSharedSums", spec := "fnSharedSums", unfollowed := true, recurses := true, apart := false, narrowed := true }
def FnSharedSumsUptoSaid : Prop := fnSharedSumsUptoRow.holds Try.pinned (OpenSpec.upto fnSharedSumsSpec)

end Rows
end Go.Proofs.Ytjnblfnfegjbfaa
