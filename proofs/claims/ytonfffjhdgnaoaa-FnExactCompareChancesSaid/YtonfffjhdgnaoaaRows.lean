/-
  No cell of these rows narrows 'for every input' (looked for: loops, veiled, ifaces, maps, wideKeys, modest, calm, conditions, laid).
  DERIVED. THE GIVEN ROWS OF THIS SEAT. 11 by the template 'for every input the law returns true; each argument reads behind the call as it read before'; 0 by the template 'total and deterministic' (their statements: YtonfffjhdgnaoaaTotals.lean).
  GIVEN WITH THE SEED: the statements are not yours to turn. If you find one false, say at which input.
  Laid BY PROGRAM, IN A SANDBOX (cutbox-rows.mjs): the forced cells as the released guide's own fill.sh prints them over the translation a1233fb08abfc965… (all of the seat's roots in one cut). By AI agents, Wed Nov 11 2026. No macro, syntax, notation, axiom, sorry.
-/
import Derived.Test.YtonfffjhdgnaoaaChecked
import GoSem.Claim
import GoSem.ClaimJoined
import GoSem.ClaimMapViews
import Derived.JoinedTies
import Derived.KernelRfl
namespace Go.Proofs.Ytonfffjhdgnaoaa
/- THE CELL 'sum', in the pinned program and in every row, IS THE sha256 OF THE DUMP (.gsa) THAT YtonfffjhdgnaoaaProg.lean LOADS. Nothing in Lean hashes anything: it is a label: what it is worth is what the hold of that sum in a sandbox is worth. -/
noncomputable def Try.pinned : Pinned := { name := "ytonfffjhdgnaoaa", sum := "a1233fb08abfc965429218876dcf0f1828e0813a65d38675b69458a51b759455", checked := Try.checked }
namespace Rows
def none {H : Type} : Left H := { results := [], args := [] }

/-- 'laws.FnExactIndexWidth': WHATEVER THE INPUT: true; the input reads as it did. -/
def fnExactIndexWidthSpec : ChangeSpec := { name := "fnExactIndexWidth", fn := fun _ => fun
  | [d] => { results := [.lit (.bool true)], args := [d] }
  | _ => none }
def fnExactIndexWidthRow : OpenClaim := { program := "ytonfffjhdgnaoaa", sum := "a1233fb08abfc965429218876dcf0f1828e0813a65d38675b69458a51b759455", func := "loop.example/g00877/laws.FnExactIndexWidth", spec := "fnExactIndexWidth", apart := false }
def FnExactIndexWidthSaid : Prop := fnExactIndexWidthRow.holds Try.pinned (OpenSpec.ofChange fnExactIndexWidthSpec)

/-- ITS FALSE NEIGHBOUR: 'it returns false'. Refute it at one input. -/
def fnExactIndexWidthWrong : ChangeSpec := { name := "fnExactIndexWidth", fn := fun _ => fun
  | [d] => { results := [.lit (.bool false)], args := [d] }
  | _ => none }
def FnExactIndexWidthWrongFalsely : Prop := fnExactIndexWidthRow.holds Try.pinned (OpenSpec.ofChange fnExactIndexWidthWrong)

/-- 'laws.FnExactSetsOf': WHATEVER THE INPUT: true; the input reads as it did. -/
def fnExactSetsOfSpec : ChangeSpec := { name := "fnExactSetsOf", fn := fun _ => fun
  | [d1, d2] => { results := [.lit (.bool true)], args := [d1, d2] }
  | _ => none }
def fnExactSetsOfRow : OpenClaim := { program := "ytonfffjhdgnaoaa", sum := "a1233fb08abfc965429218876dcf0f1828e0813a65d38675b69458a51b759455", func := "loop.example/g00877/laws.FnExactSetsOf", spec := "fnExactSetsOf", apart := false }
def FnExactSetsOfSaid : Prop := fnExactSetsOfRow.holds Try.pinned (OpenSpec.ofChange fnExactSetsOfSpec)

/-- ITS FALSE NEIGHBOUR: 'it returns false'. Refute it at one input. -/
def fnExactSetsOfWrong : ChangeSpec := { name := "fnExactSetsOf", fn := fun _ => fun
  | [d1, d2] => { results := [.lit (.bool false)], args := [d1, d2] }
  | _ => none }
def FnExactSetsOfWrongFalsely : Prop := fnExactSetsOfRow.holds Try.pinned (OpenSpec.ofChange fnExactSetsOfWrong)

/-- 'laws.FnExactAllBadChance': WHATEVER THE INPUT: true; the input reads as it did. -/
def fnExactAllBadChanceSpec : ChangeSpec := { name := "fnExactAllBadChance", fn := fun _ => fun
  | [d1, d2] => { results := [.lit (.bool true)], args := [d1, d2] }
  | _ => none }
def fnExactAllBadChanceRow : OpenClaim := { program := "ytonfffjhdgnaoaa", sum := "a1233fb08abfc965429218876dcf0f1828e0813a65d38675b69458a51b759455", func := "loop.example/g00877/laws.FnExactAllBadChance", spec := "fnExactAllBadChance", apart := false }
def FnExactAllBadChanceSaid : Prop := fnExactAllBadChanceRow.holds Try.pinned (OpenSpec.ofChange fnExactAllBadChanceSpec)

/-- ITS FALSE NEIGHBOUR: 'it returns false'. Refute it at one input. -/
def fnExactAllBadChanceWrong : ChangeSpec := { name := "fnExactAllBadChance", fn := fun _ => fun
  | [d1, d2] => { results := [.lit (.bool false)], args := [d1, d2] }
  | _ => none }
def FnExactAllBadChanceWrongFalsely : Prop := fnExactAllBadChanceRow.holds Try.pinned (OpenSpec.ofChange fnExactAllBadChanceWrong)

/-- 'laws.FnExactWidthFor': WHATEVER THE INPUT: true; the input reads as it did. -/
def fnExactWidthForSpec : ChangeSpec := { name := "fnExactWidthFor", fn := fun _ => fun
  | [d] => { results := [.lit (.bool true)], args := [d] }
  | _ => none }
def fnExactWidthForRow : OpenClaim := { program := "ytonfffjhdgnaoaa", sum := "a1233fb08abfc965429218876dcf0f1828e0813a65d38675b69458a51b759455", func := "loop.example/g00877/laws.FnExactWidthFor", spec := "fnExactWidthFor", apart := false }
def FnExactWidthForSaid : Prop := fnExactWidthForRow.holds Try.pinned (OpenSpec.ofChange fnExactWidthForSpec)

/-- ITS FALSE NEIGHBOUR: 'it returns false'. Refute it at one input. -/
def fnExactWidthForWrong : ChangeSpec := { name := "fnExactWidthFor", fn := fun _ => fun
  | [d] => { results := [.lit (.bool false)], args := [d] }
  | _ => none }
def FnExactWidthForWrongFalsely : Prop := fnExactWidthForRow.holds Try.pinned (OpenSpec.ofChange fnExactWidthForWrong)

/-- 'laws.FnExactMajorityOf': WHATEVER THE INPUT: true; the input reads as it did. -/
def fnExactMajorityOfSpec : ChangeSpec := { name := "fnExactMajorityOf", fn := fun _ => fun
  | [d] => { results := [.lit (.bool true)], args := [d] }
  | _ => none }
def fnExactMajorityOfRow : OpenClaim := { program := "ytonfffjhdgnaoaa", sum := "a1233fb08abfc965429218876dcf0f1828e0813a65d38675b69458a51b759455", func := "loop.example/g00877/laws.FnExactMajorityOf", spec := "fnExactMajorityOf", apart := false }
def FnExactMajorityOfSaid : Prop := fnExactMajorityOfRow.holds Try.pinned (OpenSpec.ofChange fnExactMajorityOfSpec)

/-- ITS FALSE NEIGHBOUR: 'it returns false'. Refute it at one input. -/
def fnExactMajorityOfWrong : ChangeSpec := { name := "fnExactMajorityOf", fn := fun _ => fun
  | [d] => { results := [.lit (.bool false)], args := [d] }
  | _ => none }
def FnExactMajorityOfWrongFalsely : Prop := fnExactMajorityOfRow.holds Try.pinned (OpenSpec.ofChange fnExactMajorityOfWrong)

/-- 'laws.FnExactMissChance': WHATEVER THE INPUT: true; the input reads as it did. -/
def fnExactMissChanceSpec : ChangeSpec := { name := "fnExactMissChance", fn := fun _ => fun
  | [d1, d2, d3] => { results := [.lit (.bool true)], args := [d1, d2, d3] }
  | _ => none }
def fnExactMissChanceRow : OpenClaim := { program := "ytonfffjhdgnaoaa", sum := "a1233fb08abfc965429218876dcf0f1828e0813a65d38675b69458a51b759455", func := "loop.example/g00877/laws.FnExactMissChance", spec := "fnExactMissChance", apart := false }
def FnExactMissChanceSaid : Prop := fnExactMissChanceRow.holds Try.pinned (OpenSpec.ofChange fnExactMissChanceSpec)

/-- ITS FALSE NEIGHBOUR: 'it returns false'. Refute it at one input. -/
def fnExactMissChanceWrong : ChangeSpec := { name := "fnExactMissChance", fn := fun _ => fun
  | [d1, d2, d3] => { results := [.lit (.bool false)], args := [d1, d2, d3] }
  | _ => none }
def FnExactMissChanceWrongFalsely : Prop := fnExactMissChanceRow.holds Try.pinned (OpenSpec.ofChange fnExactMissChanceWrong)

/-- 'laws.FnExactMissedDeltas': WHATEVER THE INPUT: true; the input reads as it did. -/
def fnExactMissedDeltasSpec : ChangeSpec := { name := "fnExactMissedDeltas", fn := fun _ => fun
  | [d1, d2, d3] => { results := [.lit (.bool true)], args := [d1, d2, d3] }
  | _ => none }
def fnExactMissedDeltasRow : OpenClaim := { program := "ytonfffjhdgnaoaa", sum := "a1233fb08abfc965429218876dcf0f1828e0813a65d38675b69458a51b759455", func := "loop.example/g00877/laws.FnExactMissedDeltas", spec := "fnExactMissedDeltas", apart := false }
def FnExactMissedDeltasSaid : Prop := fnExactMissedDeltasRow.holds Try.pinned (OpenSpec.ofChange fnExactMissedDeltasSpec)

/-- ITS FALSE NEIGHBOUR: 'it returns false'. Refute it at one input. -/
def fnExactMissedDeltasWrong : ChangeSpec := { name := "fnExactMissedDeltas", fn := fun _ => fun
  | [d1, d2, d3] => { results := [.lit (.bool false)], args := [d1, d2, d3] }
  | _ => none }
def FnExactMissedDeltasWrongFalsely : Prop := fnExactMissedDeltasRow.holds Try.pinned (OpenSpec.ofChange fnExactMissedDeltasWrong)

/-- 'laws.FnExactOpenedCounts': WHATEVER THE INPUT: true; the input reads as it did. -/
def fnExactOpenedCountsSpec : ChangeSpec := { name := "fnExactOpenedCounts", fn := fun _ => fun
  | [d1, d2] => { results := [.lit (.bool true)], args := [d1, d2] }
  | _ => none }
def fnExactOpenedCountsRow : OpenClaim := { program := "ytonfffjhdgnaoaa", sum := "a1233fb08abfc965429218876dcf0f1828e0813a65d38675b69458a51b759455", func := "loop.example/g00877/laws.FnExactOpenedCounts", spec := "fnExactOpenedCounts", apart := false }
def FnExactOpenedCountsSaid : Prop := fnExactOpenedCountsRow.holds Try.pinned (OpenSpec.ofChange fnExactOpenedCountsSpec)

/-- ITS FALSE NEIGHBOUR: 'it returns false'. Refute it at one input. -/
def fnExactOpenedCountsWrong : ChangeSpec := { name := "fnExactOpenedCounts", fn := fun _ => fun
  | [d1, d2] => { results := [.lit (.bool false)], args := [d1, d2] }
  | _ => none }
def FnExactOpenedCountsWrongFalsely : Prop := fnExactOpenedCountsRow.holds Try.pinned (OpenSpec.ofChange fnExactOpenedCountsWrong)

/-- 'laws.FnExactMajorityChance': WHATEVER THE INPUT: true; the input reads as it did. -/
def fnExactMajorityChanceSpec : ChangeSpec := { name := "fnExactMajorityChance", fn := fun _ => fun
  | [d1, d2, d3] => { results := [.lit (.bool true)], args := [d1, d2, d3] }
  | _ => none }
def fnExactMajorityChanceRow : OpenClaim := { program := "ytonfffjhdgnaoaa", sum := "a1233fb08abfc965429218876dcf0f1828e0813a65d38675b69458a51b759455", func := "loop.example/g00877/laws.FnExactMajorityChance", spec := "fnExactMajorityChance", apart := false }
def FnExactMajorityChanceSaid : Prop := fnExactMajorityChanceRow.holds Try.pinned (OpenSpec.ofChange fnExactMajorityChanceSpec)

/-- ITS FALSE NEIGHBOUR: 'it returns false'. Refute it at one input. -/
def fnExactMajorityChanceWrong : ChangeSpec := { name := "fnExactMajorityChance", fn := fun _ => fun
  | [d1, d2, d3] => { results := [.lit (.bool false)], args := [d1, d2, d3] }
  | _ => none }
def FnExactMajorityChanceWrongFalsely : Prop := fnExactMajorityChanceRow.holds Try.pinned (OpenSpec.ofChange fnExactMajorityChanceWrong)

/-- 'laws.FnExactCaughtBy': WHATEVER THE INPUT: true; the input reads as it did. -/
def fnExactCaughtBySpec : ChangeSpec := { name := "fnExactCaughtBy", fn := fun _ => fun
  | [d1, d2, d3] => { results := [.lit (.bool true)], args := [d1, d2, d3] }
  | _ => none }
def fnExactCaughtByRow : OpenClaim := { program := "ytonfffjhdgnaoaa", sum := "a1233fb08abfc965429218876dcf0f1828e0813a65d38675b69458a51b759455", func := "loop.example/g00877/laws.FnExactCaughtBy", spec := "fnExactCaughtBy", unfollowed := true, recurses := true, apart := false }
def FnExactCaughtBySaid : Prop := fnExactCaughtByRow.holds Try.pinned (OpenSpec.ofChange fnExactCaughtBySpec)

/-- ITS FALSE NEIGHBOUR: 'it returns false'. Refute it at one input. -/
def fnExactCaughtByWrong : ChangeSpec := { name := "fnExactCaughtBy", fn := fun _ => fun
  | [d1, d2, d3] => { results := [.lit (.bool false)], args := [d1, d2, d3] }
  | _ => none }
def FnExactCaughtByWrongFalsely : Prop := fnExactCaughtByRow.holds Try.pinned (OpenSpec.ofChange fnExactCaughtByWrong)

/-- 'laws.FnExactCompareChances': WHATEVER THE INPUT: true; the input reads as it did. -/
def fnExactCompareChancesSpec : ChangeSpec := { name := "fnExactCompareChances", fn := fun _ => fun
  | [d1, d2, d3, d4] => { results := [.lit (.bool true)], args := [d1, d2, d3, d4] }
  | _ => none }
def fnExactCompareChancesRow : OpenClaim := { program := "ytonfffjhdgnaoaa", sum := "a1233fb08abfc965429218876dcf0f1828e0813a65d38675b69458a51b759455", func := "loop.example/g00877/laws.FnExactCompareChances", spec := "fnExactCompareChances", recurses := true, apart := false }
def FnExactCompareChancesSaid : Prop := fnExactCompareChancesRow.holds Try.pinned (OpenSpec.ofChange fnExactCompareChancesSpec)

/-- ITS FALSE NEIGHBOUR: 'it returns false'. Refute it at one input. -/
def fnExactCompareChancesWrong : ChangeSpec := { name := "fnExactCompareChances", fn := fun _ => fun
  | [d1, d2, d3, d4] => { results := [.lit (.bool false)], args := [d1, d2, d3, d4] }
  | _ => none }
def FnExactCompareChancesWrongFalsely : Prop := fnExactCompareChancesRow.holds Try.pinned (OpenSpec.ofChange fnExactCompareChancesWrong)

/- THE SECOND FORM. 'bulk': how many values and letters a reading holds, each counted each time it is reached (what is shared counts as often as it is met; a slice's spare places count too). A statement '..UptoSaid' is the law's where the arguments, and the package variables that the reading takes, are together of bulk at most 1048576: NARROWER than '..Said'. Prove '..Said' where nothing that the law and all that it calls make is longer than what came in: it says more and counts as full. Else prove '..UptoSaid'. A law counts once. -/
mutual
def uptoBulk {H : Type} : DataW H → Nat
  | .lit (.string bytes) => bytes.length + 1
  | .lit _ => 1
  | .nil => 1
  | .ptr d => uptoBulk d + 1
  | .slice elems spare => uptoBulkAll elems + uptoBulkAll spare + 1
  | .agg parts => uptoBulkAll parts + 1
  | .iface _ d => uptoBulk d + 1
  | .map entries => uptoBulkEntries entries + 1
  | .held _ => 1
def uptoBulkAll {H : Type} : List (DataW H) → Nat
  | [] => 0
  | d :: r => uptoBulk d + uptoBulkAll r
def uptoBulkEntries {H : Type} : List (Lit × DataW H) → Nat
  | [] => 0
  | x :: r => uptoBulkEntry x + uptoBulkEntries r
def uptoBulkEntry {H : Type} : Lit × DataW H → Nat
  | (.string bytes, d) => bytes.length + uptoBulk d + 1
  | (_, d) => uptoBulk d + 1
 end
def uptoSmall : (H : Type) → List (DataW H) → Bool := fun _ ds => decide (uptoBulkAll ds ≤ 1048576)
def OpenSpec.upto (s : _root_.Go.ChangeSpec) : _root_.Go.OpenSpec := { _root_.Go.OpenSpec.ofChange s with cond := some uptoSmall }

/-- 'laws.FnExactIndexWidth', WHERE WHAT IT READS IS OF BULK AT MOST 1048576: true; the input reads as it did. -/
def fnExactIndexWidthUptoRow : OpenClaim := { program := "ytonfffjhdgnaoaa", sum := "a1233fb08abfc965429218876dcf0f1828e0813a65d38675b69458a51b759455", func := "loop.example/g00877/laws.FnExactIndexWidth", spec := "fnExactIndexWidth", apart := false, narrowed := true }
def FnExactIndexWidthUptoSaid : Prop := fnExactIndexWidthUptoRow.holds Try.pinned (OpenSpec.upto fnExactIndexWidthSpec)

/-- 'laws.FnExactSetsOf', WHERE WHAT IT READS IS OF BULK AT MOST 1048576: true; the input reads as it did. -/
def fnExactSetsOfUptoRow : OpenClaim := { program := "ytonfffjhdgnaoaa", sum := "a1233fb08abfc965429218876dcf0f1828e0813a65d38675b69458a51b759455", func := "loop.example/g00877/laws.FnExactSetsOf", spec := "fnExactSetsOf", apart := false, narrowed := true }
def FnExactSetsOfUptoSaid : Prop := fnExactSetsOfUptoRow.holds Try.pinned (OpenSpec.upto fnExactSetsOfSpec)

/-- 'laws.FnExactAllBadChance', WHERE WHAT IT READS IS OF BULK AT MOST 1048576: true; the input reads as it did. -/
def fnExactAllBadChanceUptoRow : OpenClaim := { program := "ytonfffjhdgnaoaa", sum := "a1233fb08abfc965429218876dcf0f1828e0813a65d38675b69458a51b759455", func := "loop.example/g00877/laws.FnExactAllBadChance", spec := "fnExactAllBadChance", apart := false, narrowed := true }
def FnExactAllBadChanceUptoSaid : Prop := fnExactAllBadChanceUptoRow.holds Try.pinned (OpenSpec.upto fnExactAllBadChanceSpec)

/-- 'laws.FnExactWidthFor', WHERE WHAT IT READS IS OF BULK AT MOST 1048576: true; the input reads as it did. -/
def fnExactWidthForUptoRow : OpenClaim := { program := "ytonfffjhdgnaoaa", sum := "a1233fb08abfc965429218876dcf0f1828e0813a65d38675b69458a51b759455", func := "loop.example/g00877/laws.FnExactWidthFor", spec := "fnExactWidthFor", apart := false, narrowed := true }
def FnExactWidthForUptoSaid : Prop := fnExactWidthForUptoRow.holds Try.pinned (OpenSpec.upto fnExactWidthForSpec)

/-- 'laws.FnExactMajorityOf', WHERE WHAT IT READS IS OF BULK AT MOST 1048576: true; the input reads as it did. -/
def fnExactMajorityOfUptoRow : OpenClaim := { program := "ytonfffjhdgnaoaa", sum := "a1233fb08abfc965429218876dcf0f1828e0813a65d38675b69458a51b759455", func := "loop.example/g00877/laws.FnExactMajorityOf", spec := "fnExactMajorityOf", apart := false, narrowed := true }
def FnExactMajorityOfUptoSaid : Prop := fnExactMajorityOfUptoRow.holds Try.pinned (OpenSpec.upto fnExactMajorityOfSpec)

/-- 'laws.FnExactMissChance', WHERE WHAT IT READS IS OF BULK AT MOST 1048576: true; the input reads as it did. -/
def fnExactMissChanceUptoRow : OpenClaim := { program := "ytonfffjhdgnaoaa", sum := "a1233fb08abfc965429218876dcf0f1828e0813a65d38675b69458a51b759455", func := "loop.example/g00877/laws.FnExactMissChance", spec := "fnExactMissChance", apart := false, narrowed := true }
def FnExactMissChanceUptoSaid : Prop := fnExactMissChanceUptoRow.holds Try.pinned (OpenSpec.upto fnExactMissChanceSpec)

/-- 'laws.FnExactMissedDeltas', WHERE WHAT IT READS IS OF BULK AT MOST 1048576: true; the input reads as it did. -/
def fnExactMissedDeltasUptoRow : OpenClaim := { program := "ytonfffjhdgnaoaa", sum := "a1233fb08abfc965429218876dcf0f1828e0813a65d38675b69458a51b759455", func := "loop.example/g00877/laws.FnExactMissedDeltas", spec := "fnExactMissedDeltas", apart := false, narrowed := true }
def FnExactMissedDeltasUptoSaid : Prop := fnExactMissedDeltasUptoRow.holds Try.pinned (OpenSpec.upto fnExactMissedDeltasSpec)

/-- 'laws.FnExactOpenedCounts', WHERE WHAT IT READS IS OF BULK AT MOST 1048576: true; the input reads as it did. -/
def fnExactOpenedCountsUptoRow : OpenClaim := { program := "ytonfffjhdgnaoaa", sum := "a1233fb08abfc965429218876dcf0f1828e0813a65d38675b69458a51b759455", func := "loop.example/g00877/laws.FnExactOpenedCounts", spec := "fnExactOpenedCounts", apart := false, narrowed := true }
def FnExactOpenedCountsUptoSaid : Prop := fnExactOpenedCountsUptoRow.holds Try.pinned (OpenSpec.upto fnExactOpenedCountsSpec)

/-- 'laws.FnExactMajorityChance', WHERE WHAT IT READS IS OF BULK AT MOST 1048576: true; the input reads as it did. -/
def fnExactMajorityChanceUptoRow : OpenClaim := { program := "ytonfffjhdgnaoaa", sum := "a1233fb08abfc965429218876dcf0f1828e0813a65d38675b69458a51b759455", func := "loop.example/g00877/laws.FnExactMajorityChance", spec := "fnExactMajorityChance", apart := false, narrowed := true }
def FnExactMajorityChanceUptoSaid : Prop := fnExactMajorityChanceUptoRow.holds Try.pinned (OpenSpec.upto fnExactMajorityChanceSpec)

/-- 'laws.FnExactCaughtBy', WHERE WHAT IT READS IS OF BULK AT MOST 1048576: true; the input reads as it did. -/
def fnExactCaughtByUptoRow : OpenClaim := { program := "ytonfffjhdgnaoaa", sum := "a1233fb08abfc965429218876dcf0f1828e0813a65d38675b69458a51b759455", func := "loop.example/g00877/laws.FnExactCaughtBy", spec := "fnExactCaughtBy", unfollowed := true, recurses := true, apart := false, narrowed := true }
def FnExactCaughtByUptoSaid : Prop := fnExactCaughtByUptoRow.holds Try.pinned (OpenSpec.upto fnExactCaughtBySpec)

/-- 'laws.FnExactCompareChances', WHERE WHAT IT READS IS OF BULK AT MOST 1048576: true; the input reads as it did. -/
def fnExactCompareChancesUptoRow : OpenClaim := { program := "ytonfffjhdgnaoaa", sum := "a1233fb08abfc965429218876dcf0f1828e0813a65d38675b69458a51b759455", func := "loop.example/g00877/laws.FnExactCompareChances", spec := "fnExactCompareChances", recurses := true, apart := false, narrowed := true }
def FnExactCompareChancesUptoSaid : Prop := fnExactCompareChancesUptoRow.holds Try.pinned (OpenSpec.upto fnExactCompareChancesSpec)

end Rows
end Go.Proofs.Ytonfffjhdgnaoaa
