/-
  No cell of these rows narrows 'for every input' (looked for: loops, veiled, ifaces, maps, wideKeys, modest, calm, conditions, laid).
  DERIVED. THE GIVEN ROWS OF THIS SEAT. 11 by the template 'for every input the law returns true; each argument reads behind the call as it read before'; 0 by the template 'total and deterministic' (their statements: YtkpnncpgdiboaaaTotals.lean).
  GIVEN WITH THE SEED: the statements are not yours to turn. If you find one false, say at which input.
  Laid BY PROGRAM, IN A SANDBOX (cutbox-rows.mjs): the forced cells as the released guide's own fill.sh prints them over the translation 0b411de0bbc5fdfa… (all of the seat's roots in one cut). By AI agents, Wed Nov 11 2026. No macro, syntax, notation, axiom, sorry.
-/
import Derived.Test.YtkpnncpgdiboaaaChecked
import GoSem.Claim
import GoSem.ClaimJoined
import GoSem.ClaimMapViews
import Derived.JoinedTies
import Derived.KernelRfl
namespace Go.Proofs.Ytkpnncpgdiboaaa
/- THE CELL 'sum', in the pinned program and in every row, IS THE sha256 OF THE DUMP (.gsa) THAT YtkpnncpgdiboaaaProg.lean LOADS. Nothing in Lean hashes anything: it is a label: what it is worth is what the hold of that sum in a sandbox is worth. -/
noncomputable def Try.pinned : Pinned := { name := "ytkpnncpgdiboaaa", sum := "0b411de0bbc5fdfa44be93263ba124bae13227cdac20d3daa90936bb49997b93", checked := Try.checked }
namespace Rows
def none {H : Type} : Left H := { results := [], args := [] }

/-- 'laws.FnExactGateTriple': WHATEVER THE INPUT: true; the input reads as it did. -/
def fnExactGateTripleSpec : ChangeSpec := { name := "fnExactGateTriple", fn := fun _ => fun
  | [d1, d2, d3] => { results := [.lit (.bool true)], args := [d1, d2, d3] }
  | _ => none }
def fnExactGateTripleRow : OpenClaim := { program := "ytkpnncpgdiboaaa", sum := "0b411de0bbc5fdfa44be93263ba124bae13227cdac20d3daa90936bb49997b93", func := "loop.example/g00877/laws.FnExactGateTriple", spec := "fnExactGateTriple", apart := false }
def FnExactGateTripleSaid : Prop := fnExactGateTripleRow.holds Try.pinned (OpenSpec.ofChange fnExactGateTripleSpec)

/-- ITS FALSE NEIGHBOUR: 'it returns false'. Refute it at one input. -/
def fnExactGateTripleWrong : ChangeSpec := { name := "fnExactGateTriple", fn := fun _ => fun
  | [d1, d2, d3] => { results := [.lit (.bool false)], args := [d1, d2, d3] }
  | _ => none }
def FnExactGateTripleWrongFalsely : Prop := fnExactGateTripleRow.holds Try.pinned (OpenSpec.ofChange fnExactGateTripleWrong)

/-- 'laws.FnExactDoubleBit': WHATEVER THE INPUT: true; the input reads as it did. -/
def fnExactDoubleBitSpec : ChangeSpec := { name := "fnExactDoubleBit", fn := fun _ => fun
  | [d1, d2, d3] => { results := [.lit (.bool true)], args := [d1, d2, d3] }
  | _ => none }
def fnExactDoubleBitRow : OpenClaim := { program := "ytkpnncpgdiboaaa", sum := "0b411de0bbc5fdfa44be93263ba124bae13227cdac20d3daa90936bb49997b93", func := "loop.example/g00877/laws.FnExactDoubleBit", spec := "fnExactDoubleBit", apart := false }
def FnExactDoubleBitSaid : Prop := fnExactDoubleBitRow.holds Try.pinned (OpenSpec.ofChange fnExactDoubleBitSpec)

/-- ITS FALSE NEIGHBOUR: 'it returns false'. Refute it at one input. -/
def fnExactDoubleBitWrong : ChangeSpec := { name := "fnExactDoubleBit", fn := fun _ => fun
  | [d1, d2, d3] => { results := [.lit (.bool false)], args := [d1, d2, d3] }
  | _ => none }
def FnExactDoubleBitWrongFalsely : Prop := fnExactDoubleBitRow.holds Try.pinned (OpenSpec.ofChange fnExactDoubleBitWrong)

/-- 'laws.FnExactMultiplyShared': WHATEVER THE INPUT: true; the input reads as it did. -/
def fnExactMultiplySharedSpec : ChangeSpec := { name := "fnExactMultiplyShared", fn := fun _ => fun
  | [d1, d2, d3, d4] => { results := [.lit (.bool true)], args := [d1, d2, d3, d4] }
  | _ => none }
def fnExactMultiplySharedRow : OpenClaim := { program := "ytkpnncpgdiboaaa", sum := "0b411de0bbc5fdfa44be93263ba124bae13227cdac20d3daa90936bb49997b93", func := "loop.example/g00877/laws.FnExactMultiplyShared", spec := "fnExactMultiplyShared", unfollowed := true, recurses := true, apart := false }
def FnExactMultiplySharedSaid : Prop := fnExactMultiplySharedRow.holds Try.pinned (OpenSpec.ofChange fnExactMultiplySharedSpec)

/-- ITS FALSE NEIGHBOUR: 'it returns false'. Refute it at one input. -/
def fnExactMultiplySharedWrong : ChangeSpec := { name := "fnExactMultiplyShared", fn := fun _ => fun
  | [d1, d2, d3, d4] => { results := [.lit (.bool false)], args := [d1, d2, d3, d4] }
  | _ => none }
def FnExactMultiplySharedWrongFalsely : Prop := fnExactMultiplySharedRow.holds Try.pinned (OpenSpec.ofChange fnExactMultiplySharedWrong)

/-- 'laws.FnExactBendMessage': WHATEVER THE INPUT: true; the input reads as it did. -/
def fnExactBendMessageSpec : ChangeSpec := { name := "fnExactBendMessage", fn := fun _ => fun
  | [d1, d2, d3, d4] => { results := [.lit (.bool true)], args := [d1, d2, d3, d4] }
  | _ => none }
def fnExactBendMessageRow : OpenClaim := { program := "ytkpnncpgdiboaaa", sum := "0b411de0bbc5fdfa44be93263ba124bae13227cdac20d3daa90936bb49997b93", func := "loop.example/g00877/laws.FnExactBendMessage", spec := "fnExactBendMessage", unfollowed := true, recurses := true, apart := false }
def FnExactBendMessageSaid : Prop := fnExactBendMessageRow.holds Try.pinned (OpenSpec.ofChange fnExactBendMessageSpec)

/-- ITS FALSE NEIGHBOUR: 'it returns false'. Refute it at one input. -/
def fnExactBendMessageWrong : ChangeSpec := { name := "fnExactBendMessage", fn := fun _ => fun
  | [d1, d2, d3, d4] => { results := [.lit (.bool false)], args := [d1, d2, d3, d4] }
  | _ => none }
def FnExactBendMessageWrongFalsely : Prop := fnExactBendMessageRow.holds Try.pinned (OpenSpec.ofChange fnExactBendMessageWrong)

/-- 'laws.FnExactWorstMajority': WHATEVER THE INPUT: true; the input reads as it did. -/
def fnExactWorstMajoritySpec : ChangeSpec := { name := "fnExactWorstMajority", fn := fun _ => fun
  | [d1, d2] => { results := [.lit (.bool true)], args := [d1, d2] }
  | _ => none }
def fnExactWorstMajorityRow : OpenClaim := { program := "ytkpnncpgdiboaaa", sum := "0b411de0bbc5fdfa44be93263ba124bae13227cdac20d3daa90936bb49997b93", func := "loop.example/g00877/laws.FnExactWorstMajority", spec := "fnExactWorstMajority", recurses := true, apart := false }
def FnExactWorstMajoritySaid : Prop := fnExactWorstMajorityRow.holds Try.pinned (OpenSpec.ofChange fnExactWorstMajoritySpec)

/-- ITS FALSE NEIGHBOUR: 'it returns false'. Refute it at one input. -/
def fnExactWorstMajorityWrong : ChangeSpec := { name := "fnExactWorstMajority", fn := fun _ => fun
  | [d1, d2] => { results := [.lit (.bool false)], args := [d1, d2] }
  | _ => none }
def FnExactWorstMajorityWrongFalsely : Prop := fnExactWorstMajorityRow.holds Try.pinned (OpenSpec.ofChange fnExactWorstMajorityWrong)

/-- 'laws.FnExactBitToSum': WHATEVER THE INPUT: true; the input reads as it did. -/
def fnExactBitToSumSpec : ChangeSpec := { name := "fnExactBitToSum", fn := fun _ => fun
  | [d1, d2, d3, d4] => { results := [.lit (.bool true)], args := [d1, d2, d3, d4] }
  | _ => none }
def fnExactBitToSumRow : OpenClaim := { program := "ytkpnncpgdiboaaa", sum := "0b411de0bbc5fdfa44be93263ba124bae13227cdac20d3daa90936bb49997b93", func := "loop.example/g00877/laws.FnExactBitToSum", spec := "fnExactBitToSum", unfollowed := true, recurses := true, apart := false }
def FnExactBitToSumSaid : Prop := fnExactBitToSumRow.holds Try.pinned (OpenSpec.ofChange fnExactBitToSumSpec)

/-- ITS FALSE NEIGHBOUR: 'it returns false'. Refute it at one input. -/
def fnExactBitToSumWrong : ChangeSpec := { name := "fnExactBitToSum", fn := fun _ => fun
  | [d1, d2, d3, d4] => { results := [.lit (.bool false)], args := [d1, d2, d3, d4] }
  | _ => none }
def FnExactBitToSumWrongFalsely : Prop := fnExactBitToSumRow.holds Try.pinned (OpenSpec.ofChange fnExactBitToSumWrong)

/-- 'laws.FnExactBestChecks': WHATEVER THE INPUT: true; the input reads as it did. -/
def fnExactBestChecksSpec : ChangeSpec := { name := "fnExactBestChecks", fn := fun _ => fun
  | [d] => { results := [.lit (.bool true)], args := [d] }
  | _ => none }
def fnExactBestChecksRow : OpenClaim := { program := "ytkpnncpgdiboaaa", sum := "0b411de0bbc5fdfa44be93263ba124bae13227cdac20d3daa90936bb49997b93", func := "loop.example/g00877/laws.FnExactBestChecks", spec := "fnExactBestChecks", recurses := true, apart := false }
def FnExactBestChecksSaid : Prop := fnExactBestChecksRow.holds Try.pinned (OpenSpec.ofChange fnExactBestChecksSpec)

/-- ITS FALSE NEIGHBOUR: 'it returns false'. Refute it at one input. -/
def fnExactBestChecksWrong : ChangeSpec := { name := "fnExactBestChecks", fn := fun _ => fun
  | [d] => { results := [.lit (.bool false)], args := [d] }
  | _ => none }
def FnExactBestChecksWrongFalsely : Prop := fnExactBestChecksRow.holds Try.pinned (OpenSpec.ofChange fnExactBestChecksWrong)

/-- 'laws.FnExactBitsToSum': WHATEVER THE INPUT: true; the input reads as it did. -/
def fnExactBitsToSumSpec : ChangeSpec := { name := "fnExactBitsToSum", fn := fun _ => fun
  | [d1, d2, d3, d4] => { results := [.lit (.bool true)], args := [d1, d2, d3, d4] }
  | _ => none }
def fnExactBitsToSumRow : OpenClaim := { program := "ytkpnncpgdiboaaa", sum := "0b411de0bbc5fdfa44be93263ba124bae13227cdac20d3daa90936bb49997b93", func := "loop.example/g00877/laws.FnExactBitsToSum", spec := "fnExactBitsToSum", unfollowed := true, recurses := true, apart := false }
def FnExactBitsToSumSaid : Prop := fnExactBitsToSumRow.holds Try.pinned (OpenSpec.ofChange fnExactBitsToSumSpec)

/-- ITS FALSE NEIGHBOUR: 'it returns false'. Refute it at one input. -/
def fnExactBitsToSumWrong : ChangeSpec := { name := "fnExactBitsToSum", fn := fun _ => fun
  | [d1, d2, d3, d4] => { results := [.lit (.bool false)], args := [d1, d2, d3, d4] }
  | _ => none }
def FnExactBitsToSumWrongFalsely : Prop := fnExactBitsToSumRow.holds Try.pinned (OpenSpec.ofChange fnExactBitsToSumWrong)

/-- 'laws.FnExactLeastCopies': WHATEVER THE INPUT: true; the input reads as it did. -/
def fnExactLeastCopiesSpec : ChangeSpec := { name := "fnExactLeastCopies", fn := fun _ => fun
  | [d1, d2] => { results := [.lit (.bool true)], args := [d1, d2] }
  | _ => none }
def fnExactLeastCopiesRow : OpenClaim := { program := "ytkpnncpgdiboaaa", sum := "0b411de0bbc5fdfa44be93263ba124bae13227cdac20d3daa90936bb49997b93", func := "loop.example/g00877/laws.FnExactLeastCopies", spec := "fnExactLeastCopies", recurses := true, apart := false }
def FnExactLeastCopiesSaid : Prop := fnExactLeastCopiesRow.holds Try.pinned (OpenSpec.ofChange fnExactLeastCopiesSpec)

/-- ITS FALSE NEIGHBOUR: 'it returns false'. Refute it at one input. -/
def fnExactLeastCopiesWrong : ChangeSpec := { name := "fnExactLeastCopies", fn := fun _ => fun
  | [d1, d2] => { results := [.lit (.bool false)], args := [d1, d2] }
  | _ => none }
def FnExactLeastCopiesWrongFalsely : Prop := fnExactLeastCopiesRow.holds Try.pinned (OpenSpec.ofChange fnExactLeastCopiesWrong)

/-- 'laws.FnExactMixedSum': WHATEVER THE INPUT: true; the input reads as it did. -/
def fnExactMixedSumSpec : ChangeSpec := { name := "fnExactMixedSum", fn := fun _ => fun
  | [d1, d2, d3, d4, d5] => { results := [.lit (.bool true)], args := [d1, d2, d3, d4, d5] }
  | _ => none }
def fnExactMixedSumRow : OpenClaim := { program := "ytkpnncpgdiboaaa", sum := "0b411de0bbc5fdfa44be93263ba124bae13227cdac20d3daa90936bb49997b93", func := "loop.example/g00877/laws.FnExactMixedSum", spec := "fnExactMixedSum", unfollowed := true, recurses := true, apart := false }
def FnExactMixedSumSaid : Prop := fnExactMixedSumRow.holds Try.pinned (OpenSpec.ofChange fnExactMixedSumSpec)

/-- ITS FALSE NEIGHBOUR: 'it returns false'. Refute it at one input. -/
def fnExactMixedSumWrong : ChangeSpec := { name := "fnExactMixedSum", fn := fun _ => fun
  | [d1, d2, d3, d4, d5] => { results := [.lit (.bool false)], args := [d1, d2, d3, d4, d5] }
  | _ => none }
def FnExactMixedSumWrongFalsely : Prop := fnExactMixedSumRow.holds Try.pinned (OpenSpec.ofChange fnExactMixedSumWrong)

/-- 'laws.FnExactChooseShared': WHATEVER THE INPUT: true; the input reads as it did. -/
def fnExactChooseSharedSpec : ChangeSpec := { name := "fnExactChooseShared", fn := fun _ => fun
  | [d1, d2, d3, d4, d5] => { results := [.lit (.bool true)], args := [d1, d2, d3, d4, d5] }
  | _ => none }
def fnExactChooseSharedRow : OpenClaim := { program := "ytkpnncpgdiboaaa", sum := "0b411de0bbc5fdfa44be93263ba124bae13227cdac20d3daa90936bb49997b93", func := "loop.example/g00877/laws.FnExactChooseShared", spec := "fnExactChooseShared", unfollowed := true, recurses := true, apart := false }
def FnExactChooseSharedSaid : Prop := fnExactChooseSharedRow.holds Try.pinned (OpenSpec.ofChange fnExactChooseSharedSpec)

/-- ITS FALSE NEIGHBOUR: 'it returns false'. Refute it at one input. -/
def fnExactChooseSharedWrong : ChangeSpec := { name := "fnExactChooseShared", fn := fun _ => fun
  | [d1, d2, d3, d4, d5] => { results := [.lit (.bool false)], args := [d1, d2, d3, d4, d5] }
  | _ => none }
def FnExactChooseSharedWrongFalsely : Prop := fnExactChooseSharedRow.holds Try.pinned (OpenSpec.ofChange fnExactChooseSharedWrong)

/- THE SECOND FORM. 'bulk': how many values and letters a reading holds, each counted each time it is reached (what is shared counts as often as it is met; a slice's spare places count too). A statement '..UptoSaid' is the law's where the arguments, and the package variables that the reading takes, are together of bulk at most 1048576: NARROWER than '..Said'. Prove '..Said' where nothing that the law and all that it calls make is longer than what came in: it says more and counts as full. Else prove '..UptoSaid'. A law counts once. -/
mutual
def uptoBulk {H : Type} : DataW H → Nat
  | .lit (.string bytes) => bytes.length + 1
  | .lit _ => 1
  | .nil => 1
  | .ptr d => uptoBulk d + 1
  | .slice elems spare => uptoBulkAll elems + uptoBulkAll spare + 1
  | .agg parts => uptoBulkAll parts + 1
  | .iface _ d => uptoBulk d + 1
  | .map entries => uptoBulkEntries entries + 1
  | .held _ => 1
def uptoBulkAll {H : Type} : List (DataW H) → Nat
  | [] => 0
  | d :: r => uptoBulk d + uptoBulkAll r
def uptoBulkEntries {H : Type} : List (Lit × DataW H) → Nat
  | [] => 0
  | x :: r => uptoBulkEntry x + uptoBulkEntries r
def uptoBulkEntry {H : Type} : Lit × DataW H → Nat
  | (.string bytes, d) => bytes.length + uptoBulk d + 1
  | (_, d) => uptoBulk d + 1
 end
def uptoSmall : (H : Type) → List (DataW H) → Bool := fun _ ds => decide (uptoBulkAll ds ≤ 1048576)
def OpenSpec.upto (s : _root_.Go.ChangeSpec) : _root_.Go.OpenSpec := { _root_.Go.OpenSpec.ofChange s with cond := some uptoSmall }

/-- 'laws.FnExactGateTriple', WHERE WHAT IT READS IS OF BULK AT MOST 1048576: true; the input reads as it did. -/
def fnExactGateTripleUptoRow : OpenClaim := { program := "ytkpnncpgdiboaaa", sum := "0b411de0bbc5fdfa44be93263ba124bae13227cdac20d3daa90936bb49997b93", func := "loop.example/g00877/laws.FnExactGateTriple", spec := "fnExactGateTriple", apart := false, narrowed := true }
def FnExactGateTripleUptoSaid : Prop := fnExactGateTripleUptoRow.holds Try.pinned (OpenSpec.upto fnExactGateTripleSpec)

/-- 'laws.FnExactDoubleBit', WHERE WHAT IT READS IS OF BULK AT MOST 1048576: true; the input reads as it did. -/
def fnExactDoubleBitUptoRow : OpenClaim := { program := "ytkpnncpgdiboaaa", sum := "0b411de0bbc5fdfa44be93263ba124bae13227cdac20d3daa90936bb49997b93", func := "loop.example/g00877/laws.FnExactDoubleBit", spec := "fnExactDoubleBit", apart := false, narrowed := true }
def FnExactDoubleBitUptoSaid : Prop := fnExactDoubleBitUptoRow.holds Try.pinned (OpenSpec.upto fnExactDoubleBitSpec)

/-- 'laws.FnExactMultiplyShared', WHERE WHAT IT READS IS OF BULK AT MOST 1048576: true; the input reads as it did. -/
def fnExactMultiplySharedUptoRow : OpenClaim := { program := "ytkpnncpgdiboaaa", sum := "0b411de0bbc5fdfa44be93263ba124bae13227cdac20d3daa90936bb49997b93", func := "loop.example/g00877/laws.FnExactMultiplyShared", spec := "fnExactMultiplyShared", unfollowed := true, recurses := true, apart := false, narrowed := true }
def FnExactMultiplySharedUptoSaid : Prop := fnExactMultiplySharedUptoRow.holds Try.pinned (OpenSpec.upto fnExactMultiplySharedSpec)

/-- 'laws.FnExactBendMessage', WHERE WHAT IT READS IS OF BULK AT MOST 1048576: true; the input reads as it did. -/
def fnExactBendMessageUptoRow : OpenClaim := { program := "ytkpnncpgdiboaaa", sum := "0b411de0bbc5fdfa44be93263ba124bae13227cdac20d3daa90936bb49997b93", func := "loop.example/g00877/laws.FnExactBendMessage", spec := "fnExactBendMessage", unfollowed := true, recurses := true, apart := false, narrowed := true }
def FnExactBendMessageUptoSaid : Prop := fnExactBendMessageUptoRow.holds Try.pinned (OpenSpec.upto fnExactBendMessageSpec)

/-- 'laws.FnExactWorstMajority', WHERE WHAT IT READS IS OF BULK AT MOST 1048576: true; the input reads as it did. -/
def fnExactWorstMajorityUptoRow : OpenClaim := { program := "ytkpnncpgdiboaaa", sum := "0b411de0bbc5fdfa44be93263ba124bae13227cdac20d3daa90936bb49997b93", func := "loop.example/g00877/laws.FnExactWorstMajority", spec := "fnExactWorstMajority", recurses := true, apart := false, narrowed := true }
def FnExactWorstMajorityUptoSaid : Prop := fnExactWorstMajorityUptoRow.holds Try.pinned (OpenSpec.upto fnExactWorstMajoritySpec)

/-- 'laws.FnExactBitToSum', WHERE WHAT IT READS IS OF BULK AT MOST 1048576: true; the input reads as it did. -/
def fnExactBitToSumUptoRow : OpenClaim := { program := "ytkpnncpgdiboaaa", sum := "0b411de0bbc5fdfa44be93263ba124bae13227cdac20d3daa90936bb49997b93", func := "loop.example/g00877/laws.FnExactBitToSum", spec := "fnExactBitToSum", unfollowed := true, recurses := true, apart := false, narrowed := true }
def FnExactBitToSumUptoSaid : Prop := fnExactBitToSumUptoRow.holds Try.pinned (OpenSpec.upto fnExactBitToSumSpec)

/-- 'laws.FnExactBestChecks', WHERE WHAT IT READS IS OF BULK AT MOST 1048576: true; the input reads as it did. -/
def fnExactBestChecksUptoRow : OpenClaim := { program := "ytkpnncpgdiboaaa", sum := "0b411de0bbc5fdfa44be93263ba124bae13227cdac20d3daa90936bb49997b93", func := "loop.example/g00877/laws.FnExactBestChecks", spec := "fnExactBestChecks", recurses := true, apart := false, narrowed := true }
def FnExactBestChecksUptoSaid : Prop := fnExactBestChecksUptoRow.holds Try.pinned (OpenSpec.upto fnExactBestChecksSpec)

/-- 'laws.FnExactBitsToSum', WHERE WHAT IT READS IS OF BULK AT MOST 1048576: true; the input reads as it did. -/
def fnExactBitsToSumUptoRow : OpenClaim := { program := "ytkpnncpgdiboaaa", sum := "0b411de0bbc5fdfa44be93263ba124bae13227cdac20d3daa90936bb49997b93", func := "loop.example/g00877/laws.FnExactBitsToSum", spec := "fnExactBitsToSum", unfollowed := true, recurses := true, apart := false, narrowed := true }
def FnExactBitsToSumUptoSaid : Prop := fnExactBitsToSumUptoRow.holds Try.pinned (OpenSpec.upto fnExactBitsToSumSpec)

/-- 'laws.FnExactLeastCopies', WHERE WHAT IT READS IS OF BULK AT MOST 1048576: true; the input reads as it did. -/
def fnExactLeastCopiesUptoRow : OpenClaim := { program := "ytkpnncpgdiboaaa", sum := "0b411de0bbc5fdfa44be93263ba124bae13227cdac20d3daa90936bb49997b93", func := "loop.example/g00877/laws.FnExactLeastCopies", spec := "fnExactLeastCopies", recurses := true, apart := false, narrowed := true }
def FnExactLeastCopiesUptoSaid : Prop := fnExactLeastCopiesUptoRow.holds Try.pinned (OpenSpec.upto fnExactLeastCopiesSpec)

/-- 'laws.FnExactMixedSum', WHERE WHAT IT READS IS OF BULK AT MOST 1048576: true; the input reads as it did. -/
def fnExactMixedSumUptoRow : OpenClaim := { program := "ytkpnncpgdiboaaa", sum := "0b411de0bbc5fdfa44be93263ba124bae13227cdac20d3daa90936bb49997b93", func := "loop.example/g00877/laws.FnExactMixedSum", spec := "fnExactMixedSum", unfollowed := true, recurses := true, apart := false, narrowed := true }
def FnExactMixedSumUptoSaid : Prop := fnExactMixedSumUptoRow.holds Try.pinned (OpenSpec.upto fnExactMixedSumSpec)

/-- 'laws.FnExactChooseShared', WHERE WHAT IT READS IS OF BULK AT MOST 1048576: true; the input reads as it did. -/
def fnExactChooseSharedUptoRow : OpenClaim := { program := "ytkpnncpgdiboaaa", sum := "0b411de0bbc5fdfa44be93263ba124bae13227cdac20d3daa90936bb49997b93", func := "loop.example/g00877/laws.FnExactChooseShared", spec := "fnExactChooseShared", unfollowed := true, recurses := true, apart := false, narrowed := true }
def FnExactChooseSharedUptoSaid : Prop := fnExactChooseSharedUptoRow.holds Try.pinned (OpenSpec.upto fnExactChooseSharedSpec)

end Rows
end Go.Proofs.Ytkpnncpgdiboaaa
