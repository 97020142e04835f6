/-
  NARROWER THAN 'FOR EVERY INPUT', by the rows' own cells (each row's printed sentence says how): FnExactIsPlayer: laid · FnExactOutputOf: laid · FnExactDealtValues: laid · FnExactMessageOf: laid · FnBentMessages: laid · FnExactTakeMessage: laid · FnExactRunBent: laid · FnExactReplayFor: laid · FnExactSilentValues: laid · FnExactRunPlayers: laid.
  DERIVED. THE GIVEN ROWS OF THIS SEAT. 10 by the template 'for every input the law returns true; each argument reads behind the call as it read before'; 0 by the template 'total and deterministic' (their statements: YtlmdckcohoddnaaDoorTotals.lean).
  GIVEN WITH THE SEED: the statements are not yours to turn. If you find one false, say at which input.
  Laid BY PROGRAM, IN A SANDBOX (cutbox-rows.mjs): the forced cells as the released guide's own fill.sh prints them over the translation 83f697544e8a7adc… (all of the seat's roots in one cut). By AI agents, Wed Nov 11 2026. No macro, syntax, notation, axiom, sorry.
-/
import Derived.Test.YtlmdckcohoddnaaDoorChecked
import GoSem.Claim
import GoSem.ClaimJoined
import GoSem.ClaimMapViews
import Derived.JoinedTies
import Derived.KernelRfl
namespace Go.Proofs.YtlmdckcohoddnaaDoor
/- THE CELL 'sum', in the pinned program and in every row, IS THE sha256 OF THE DUMP (.gsa) THAT YtlmdckcohoddnaaDoorProg.lean LOADS. Nothing in Lean hashes anything: it is a label: what it is worth is what the hold of that sum in a sandbox is worth. -/
noncomputable def Tryd.pinned : Pinned := { name := "ytlmdckcohoddnaadoor", sum := "83f697544e8a7adc81c0f65358f81e1ccdc3df50500f17e679309afbc07782b9", checked := Tryd.checked }
namespace Rows
def none {H : Type} : Left H := { results := [], args := [] }

/- WHAT THE LISTED PACKAGE-LEVEL VARIABLES READ AS WHEN THE CALL BEGINS. Each datum BY PROGRAM (the guide's laid-datum.mjs) off the statement by which the dump's own 'gosem.cut.vars' lays the variable. In a bare row this is a premise. The card (YtlmdckcohoddnaaDoorCards.lean) ties it to the program's text. -/
def laid_loop_example_g00877_impl_bodyLengths {H : Type} : DataW H := .agg [.lit (.int .i64 1), .lit (.int .i64 4), .lit (.int .i64 2)]

/-- 'laws.FnExactIsPlayer': WHATEVER THE INPUT: true; the input reads as it did. -/
def fnExactIsPlayerSpec : ChangeSpec := { name := "fnExactIsPlayer", vars := ["loop.example/g00877/impl.bodyLengths"], fn := fun _ => fun
  | [d, g1] => { results := [.lit (.bool true)], args := [d], vars := [g1] }
  | _ => none }
def fnExactIsPlayerRow : OpenClaim := { program := "ytlmdckcohoddnaadoor", sum := "83f697544e8a7adc81c0f65358f81e1ccdc3df50500f17e679309afbc07782b9", func := "loop.example/g00877/laws.FnExactIsPlayer", spec := "fnExactIsPlayer", unfollowed := true, recurses := true, named := ["loop.example/g00877/impl.bodyLengths"], apart := false, laid := [("loop.example/g00877/impl.bodyLengths", laid_loop_example_g00877_impl_bodyLengths)] }
def FnExactIsPlayerSaid : Prop := fnExactIsPlayerRow.holds Tryd.pinned (OpenSpec.ofChange fnExactIsPlayerSpec)

/-- ITS FALSE NEIGHBOUR: 'it returns false'. Refute it at one input. -/
def fnExactIsPlayerWrong : ChangeSpec := { name := "fnExactIsPlayer", vars := ["loop.example/g00877/impl.bodyLengths"], fn := fun _ => fun
  | [d, g1] => { results := [.lit (.bool false)], args := [d], vars := [g1] }
  | _ => none }
def FnExactIsPlayerWrongFalsely : Prop := fnExactIsPlayerRow.holds Tryd.pinned (OpenSpec.ofChange fnExactIsPlayerWrong)

/-- 'laws.FnExactOutputOf': WHATEVER THE INPUT: true; the input reads as it did. -/
def fnExactOutputOfSpec : ChangeSpec := { name := "fnExactOutputOf", vars := ["loop.example/g00877/impl.bodyLengths"], fn := fun _ => fun
  | [d, g1] => { results := [.lit (.bool true)], args := [d], vars := [g1] }
  | _ => none }
def fnExactOutputOfRow : OpenClaim := { program := "ytlmdckcohoddnaadoor", sum := "83f697544e8a7adc81c0f65358f81e1ccdc3df50500f17e679309afbc07782b9", func := "loop.example/g00877/laws.FnExactOutputOf", spec := "fnExactOutputOf", unfollowed := true, recurses := true, named := ["loop.example/g00877/impl.bodyLengths"], apart := false, laid := [("loop.example/g00877/impl.bodyLengths", laid_loop_example_g00877_impl_bodyLengths)] }
def FnExactOutputOfSaid : Prop := fnExactOutputOfRow.holds Tryd.pinned (OpenSpec.ofChange fnExactOutputOfSpec)

/-- ITS FALSE NEIGHBOUR: 'it returns false'. Refute it at one input. -/
def fnExactOutputOfWrong : ChangeSpec := { name := "fnExactOutputOf", vars := ["loop.example/g00877/impl.bodyLengths"], fn := fun _ => fun
  | [d, g1] => { results := [.lit (.bool false)], args := [d], vars := [g1] }
  | _ => none }
def FnExactOutputOfWrongFalsely : Prop := fnExactOutputOfRow.holds Tryd.pinned (OpenSpec.ofChange fnExactOutputOfWrong)

/-- 'laws.FnExactDealtValues': WHATEVER THE INPUT: true; the input reads as it did. -/
def fnExactDealtValuesSpec : ChangeSpec := { name := "fnExactDealtValues", vars := ["loop.example/g00877/impl.bodyLengths"], fn := fun _ => fun
  | [d1, d2, g1] => { results := [.lit (.bool true)], args := [d1, d2], vars := [g1] }
  | _ => none }
def fnExactDealtValuesRow : OpenClaim := { program := "ytlmdckcohoddnaadoor", sum := "83f697544e8a7adc81c0f65358f81e1ccdc3df50500f17e679309afbc07782b9", func := "loop.example/g00877/laws.FnExactDealtValues", spec := "fnExactDealtValues", unfollowed := true, recurses := true, named := ["loop.example/g00877/impl.bodyLengths"], apart := false, laid := [("loop.example/g00877/impl.bodyLengths", laid_loop_example_g00877_impl_bodyLengths)] }
def FnExactDealtValuesSaid : Prop := fnExactDealtValuesRow.holds Tryd.pinned (OpenSpec.ofChange fnExactDealtValuesSpec)

/-- ITS FALSE NEIGHBOUR: 'it returns false'. Refute it at one input. -/
def fnExactDealtValuesWrong : ChangeSpec := { name := "fnExactDealtValues", vars := ["loop.example/g00877/impl.bodyLengths"], fn := fun _ => fun
  | [d1, d2, g1] => { results := [.lit (.bool false)], args := [d1, d2], vars := [g1] }
  | _ => none }
def FnExactDealtValuesWrongFalsely : Prop := fnExactDealtValuesRow.holds Tryd.pinned (OpenSpec.ofChange fnExactDealtValuesWrong)

/-- 'laws.FnExactMessageOf': WHATEVER THE INPUT: true; the input reads as it did. -/
def fnExactMessageOfSpec : ChangeSpec := { name := "fnExactMessageOf", vars := ["loop.example/g00877/impl.bodyLengths"], fn := fun _ => fun
  | [d, g1] => { results := [.lit (.bool true)], args := [d], vars := [g1] }
  | _ => none }
def fnExactMessageOfRow : OpenClaim := { program := "ytlmdckcohoddnaadoor", sum := "83f697544e8a7adc81c0f65358f81e1ccdc3df50500f17e679309afbc07782b9", func := "loop.example/g00877/laws.FnExactMessageOf", spec := "fnExactMessageOf", unfollowed := true, recurses := true, named := ["loop.example/g00877/impl.bodyLengths"], apart := false, laid := [("loop.example/g00877/impl.bodyLengths", laid_loop_example_g00877_impl_bodyLengths)] }
def FnExactMessageOfSaid : Prop := fnExactMessageOfRow.holds Tryd.pinned (OpenSpec.ofChange fnExactMessageOfSpec)

/-- ITS FALSE NEIGHBOUR: 'it returns false'. Refute it at one input. -/
def fnExactMessageOfWrong : ChangeSpec := { name := "fnExactMessageOf", vars := ["loop.example/g00877/impl.bodyLengths"], fn := fun _ => fun
  | [d, g1] => { results := [.lit (.bool false)], args := [d], vars := [g1] }
  | _ => none }
def FnExactMessageOfWrongFalsely : Prop := fnExactMessageOfRow.holds Tryd.pinned (OpenSpec.ofChange fnExactMessageOfWrong)

/-- 'laws.FnBentMessages': WHATEVER THE INPUT: true; the input reads as it did. -/
def fnBentMessagesSpec : ChangeSpec := { name := "fnBentMessages", vars := ["loop.example/g00877/impl.bodyLengths"], fn := fun _ => fun
  | [d1, d2, d3, d4, d5, d6, d7, g1] => { results := [.lit (.bool true)], args := [d1, d2, d3, d4, d5, d6, d7], vars := [g1] }
  | _ => none }
def fnBentMessagesRow : OpenClaim := { program := "ytlmdckcohoddnaadoor", sum := "83f697544e8a7adc81c0f65358f81e1ccdc3df50500f17e679309afbc07782b9", func := "loop.example/g00877/laws.FnBentMessages", spec := "fnBentMessages", unfollowed := true, recurses := true, named := ["loop.example/g00877/impl.bodyLengths"], apart := false, laid := [("loop.example/g00877/impl.bodyLengths", laid_loop_example_g00877_impl_bodyLengths)] }
def FnBentMessagesSaid : Prop := fnBentMessagesRow.holds Tryd.pinned (OpenSpec.ofChange fnBentMessagesSpec)

/-- ITS FALSE NEIGHBOUR: 'it returns false'. Refute it at one input. -/
def fnBentMessagesWrong : ChangeSpec := { name := "fnBentMessages", vars := ["loop.example/g00877/impl.bodyLengths"], fn := fun _ => fun
  | [d1, d2, d3, d4, d5, d6, d7, g1] => { results := [.lit (.bool false)], args := [d1, d2, d3, d4, d5, d6, d7], vars := [g1] }
  | _ => none }
def FnBentMessagesWrongFalsely : Prop := fnBentMessagesRow.holds Tryd.pinned (OpenSpec.ofChange fnBentMessagesWrong)

/-- 'laws.FnExactTakeMessage': WHATEVER THE INPUT: true; the input reads as it did. -/
def fnExactTakeMessageSpec : ChangeSpec := { name := "fnExactTakeMessage", vars := ["loop.example/g00877/impl.bodyLengths"], fn := fun _ => fun
  | [d1, d2, g1] => { results := [.lit (.bool true)], args := [d1, d2], vars := [g1] }
  | _ => none }
def fnExactTakeMessageRow : OpenClaim := { program := "ytlmdckcohoddnaadoor", sum := "83f697544e8a7adc81c0f65358f81e1ccdc3df50500f17e679309afbc07782b9", func := "loop.example/g00877/laws.FnExactTakeMessage", spec := "fnExactTakeMessage", unfollowed := true, recurses := true, named := ["loop.example/g00877/impl.bodyLengths"], apart := false, laid := [("loop.example/g00877/impl.bodyLengths", laid_loop_example_g00877_impl_bodyLengths)] }
def FnExactTakeMessageSaid : Prop := fnExactTakeMessageRow.holds Tryd.pinned (OpenSpec.ofChange fnExactTakeMessageSpec)

/-- ITS FALSE NEIGHBOUR: 'it returns false'. Refute it at one input. -/
def fnExactTakeMessageWrong : ChangeSpec := { name := "fnExactTakeMessage", vars := ["loop.example/g00877/impl.bodyLengths"], fn := fun _ => fun
  | [d1, d2, g1] => { results := [.lit (.bool false)], args := [d1, d2], vars := [g1] }
  | _ => none }
def FnExactTakeMessageWrongFalsely : Prop := fnExactTakeMessageRow.holds Tryd.pinned (OpenSpec.ofChange fnExactTakeMessageWrong)

/-- 'laws.FnExactRunBent': WHATEVER THE INPUT: true; the input reads as it did. -/
def fnExactRunBentSpec : ChangeSpec := { name := "fnExactRunBent", vars := ["loop.example/g00877/impl.bodyLengths"], fn := fun _ => fun
  | [d1, d2, d3, d4, d5, g1] => { results := [.lit (.bool true)], args := [d1, d2, d3, d4, d5], vars := [g1] }
  | _ => none }
def fnExactRunBentRow : OpenClaim := { program := "ytlmdckcohoddnaadoor", sum := "83f697544e8a7adc81c0f65358f81e1ccdc3df50500f17e679309afbc07782b9", func := "loop.example/g00877/laws.FnExactRunBent", spec := "fnExactRunBent", unfollowed := true, recurses := true, named := ["loop.example/g00877/impl.bodyLengths"], apart := false, laid := [("loop.example/g00877/impl.bodyLengths", laid_loop_example_g00877_impl_bodyLengths)] }
def FnExactRunBentSaid : Prop := fnExactRunBentRow.holds Tryd.pinned (OpenSpec.ofChange fnExactRunBentSpec)

/-- ITS FALSE NEIGHBOUR: 'it returns false'. Refute it at one input. -/
def fnExactRunBentWrong : ChangeSpec := { name := "fnExactRunBent", vars := ["loop.example/g00877/impl.bodyLengths"], fn := fun _ => fun
  | [d1, d2, d3, d4, d5, g1] => { results := [.lit (.bool false)], args := [d1, d2, d3, d4, d5], vars := [g1] }
  | _ => none }
def FnExactRunBentWrongFalsely : Prop := fnExactRunBentRow.holds Tryd.pinned (OpenSpec.ofChange fnExactRunBentWrong)

/-- 'laws.FnExactReplayFor': WHATEVER THE INPUT: true; the input reads as it did. -/
def fnExactReplayForSpec : ChangeSpec := { name := "fnExactReplayFor", vars := ["loop.example/g00877/impl.bodyLengths"], fn := fun _ => fun
  | [d1, d2, g1] => { results := [.lit (.bool true)], args := [d1, d2], vars := [g1] }
  | _ => none }
def fnExactReplayForRow : OpenClaim := { program := "ytlmdckcohoddnaadoor", sum := "83f697544e8a7adc81c0f65358f81e1ccdc3df50500f17e679309afbc07782b9", func := "loop.example/g00877/laws.FnExactReplayFor", spec := "fnExactReplayFor", unfollowed := true, recurses := true, named := ["loop.example/g00877/impl.bodyLengths"], apart := false, laid := [("loop.example/g00877/impl.bodyLengths", laid_loop_example_g00877_impl_bodyLengths)] }
def FnExactReplayForSaid : Prop := fnExactReplayForRow.holds Tryd.pinned (OpenSpec.ofChange fnExactReplayForSpec)

/-- ITS FALSE NEIGHBOUR: 'it returns false'. Refute it at one input. -/
def fnExactReplayForWrong : ChangeSpec := { name := "fnExactReplayFor", vars := ["loop.example/g00877/impl.bodyLengths"], fn := fun _ => fun
  | [d1, d2, g1] => { results := [.lit (.bool false)], args := [d1, d2], vars := [g1] }
  | _ => none }
def FnExactReplayForWrongFalsely : Prop := fnExactReplayForRow.holds Tryd.pinned (OpenSpec.ofChange fnExactReplayForWrong)

/-- 'laws.FnExactSilentValues': WHATEVER THE INPUT: true; the input reads as it did. -/
def fnExactSilentValuesSpec : ChangeSpec := { name := "fnExactSilentValues", vars := ["loop.example/g00877/impl.bodyLengths"], fn := fun _ => fun
  | [d1, d2, d3, d4, g1] => { results := [.lit (.bool true)], args := [d1, d2, d3, d4], vars := [g1] }
  | _ => none }
def fnExactSilentValuesRow : OpenClaim := { program := "ytlmdckcohoddnaadoor", sum := "83f697544e8a7adc81c0f65358f81e1ccdc3df50500f17e679309afbc07782b9", func := "loop.example/g00877/laws.FnExactSilentValues", spec := "fnExactSilentValues", unfollowed := true, recurses := true, named := ["loop.example/g00877/impl.bodyLengths"], apart := false, laid := [("loop.example/g00877/impl.bodyLengths", laid_loop_example_g00877_impl_bodyLengths)] }
def FnExactSilentValuesSaid : Prop := fnExactSilentValuesRow.holds Tryd.pinned (OpenSpec.ofChange fnExactSilentValuesSpec)

/-- ITS FALSE NEIGHBOUR: 'it returns false'. Refute it at one input. -/
def fnExactSilentValuesWrong : ChangeSpec := { name := "fnExactSilentValues", vars := ["loop.example/g00877/impl.bodyLengths"], fn := fun _ => fun
  | [d1, d2, d3, d4, g1] => { results := [.lit (.bool false)], args := [d1, d2, d3, d4], vars := [g1] }
  | _ => none }
def FnExactSilentValuesWrongFalsely : Prop := fnExactSilentValuesRow.holds Tryd.pinned (OpenSpec.ofChange fnExactSilentValuesWrong)

/-- 'laws.FnExactRunPlayers': WHATEVER THE INPUT: true; the input reads as it did. -/
def fnExactRunPlayersSpec : ChangeSpec := { name := "fnExactRunPlayers", vars := ["loop.example/g00877/impl.bodyLengths"], fn := fun _ => fun
  | [d1, d2, g1] => { results := [.lit (.bool true)], args := [d1, d2], vars := [g1] }
  | _ => none }
def fnExactRunPlayersRow : OpenClaim := { program := "ytlmdckcohoddnaadoor", sum := "83f697544e8a7adc81c0f65358f81e1ccdc3df50500f17e679309afbc07782b9", func := "loop.example/g00877/laws.FnExactRunPlayers", spec := "fnExactRunPlayers", unfollowed := true, recurses := true, named := ["loop.example/g00877/impl.bodyLengths"], apart := false, laid := [("loop.example/g00877/impl.bodyLengths", laid_loop_example_g00877_impl_bodyLengths)] }
def FnExactRunPlayersSaid : Prop := fnExactRunPlayersRow.holds Tryd.pinned (OpenSpec.ofChange fnExactRunPlayersSpec)

/-- ITS FALSE NEIGHBOUR: 'it returns false'. Refute it at one input. -/
def fnExactRunPlayersWrong : ChangeSpec := { name := "fnExactRunPlayers", vars := ["loop.example/g00877/impl.bodyLengths"], fn := fun _ => fun
  | [d1, d2, g1] => { results := [.lit (.bool false)], args := [d1, d2], vars := [g1] }
  | _ => none }
def FnExactRunPlayersWrongFalsely : Prop := fnExactRunPlayersRow.holds Tryd.pinned (OpenSpec.ofChange fnExactRunPlayersWrong)

/- THE SECOND FORM. 'bulk': how many values and letters a reading holds, each counted each time it is reached (what is shared counts as often as it is met; a slice's spare places count too). A statement '..UptoSaid' is the law's where the arguments, and the package variables that the reading takes, are together of bulk at most 1048576: NARROWER than '..Said'. Prove '..Said' where nothing that the law and all that it calls make is longer than what came in: it says more and counts as full. Else prove '..UptoSaid'. A law counts once. -/
mutual
def uptoBulk {H : Type} : DataW H → Nat
  | .lit (.string bytes) => bytes.length + 1
  | .lit _ => 1
  | .nil => 1
  | .ptr d => uptoBulk d + 1
  | .slice elems spare => uptoBulkAll elems + uptoBulkAll spare + 1
  | .agg parts => uptoBulkAll parts + 1
  | .iface _ d => uptoBulk d + 1
  | .map entries => uptoBulkEntries entries + 1
  | .held _ => 1
def uptoBulkAll {H : Type} : List (DataW H) → Nat
  | [] => 0
  | d :: r => uptoBulk d + uptoBulkAll r
def uptoBulkEntries {H : Type} : List (Lit × DataW H) → Nat
  | [] => 0
  | x :: r => uptoBulkEntry x + uptoBulkEntries r
def uptoBulkEntry {H : Type} : Lit × DataW H → Nat
  | (.string bytes, d) => bytes.length + uptoBulk d + 1
  | (_, d) => uptoBulk d + 1
 end
def uptoSmall : (H : Type) → List (DataW H) → Bool := fun _ ds => decide (uptoBulkAll ds ≤ 1048576)
def OpenSpec.upto (s : _root_.Go.ChangeSpec) : _root_.Go.OpenSpec := { _root_.Go.OpenSpec.ofChange s with cond := some uptoSmall }

/-- 'laws.FnExactIsPlayer', WHERE WHAT IT READS IS OF BULK AT MOST 1048576: true; the input reads as it did. -/
def fnExactIsPlayerUptoRow : OpenClaim := { program := "ytlmdckcohoddnaadoor", sum := "83f697544e8a7adc81c0f65358f81e1ccdc3df50500f17e679309afbc07782b9", func := "loop.example/g00877/laws.FnExactIsPlayer", spec := "fnExactIsPlayer", unfollowed := true, recurses := true, named := ["loop.example/g00877/impl.bodyLengths"], apart := false, laid := [("loop.example/g00877/impl.bodyLengths", laid_loop_example_g00877_impl_bodyLengths)], narrowed := true }
def FnExactIsPlayerUptoSaid : Prop := fnExactIsPlayerUptoRow.holds Tryd.pinned (OpenSpec.upto fnExactIsPlayerSpec)

/-- 'laws.FnExactOutputOf', WHERE WHAT IT READS IS OF BULK AT MOST 1048576: true; the input reads as it did. -/
def fnExactOutputOfUptoRow : OpenClaim := { program := "ytlmdckcohoddnaadoor", sum := "83f697544e8a7adc81c0f65358f81e1ccdc3df50500f17e679309afbc07782b9", func := "loop.example/g00877/laws.FnExactOutputOf", spec := "fnExactOutputOf", unfollowed := true, recurses := true, named := ["loop.example/g00877/impl.bodyLengths"], apart := false, laid := [("loop.example/g00877/impl.bodyLengths", laid_loop_example_g00877_impl_bodyLengths)], narrowed := true }
def FnExactOutputOfUptoSaid : Prop := fnExactOutputOfUptoRow.holds Tryd.pinned (OpenSpec.upto fnExactOutputOfSpec)

/-- 'laws.FnExactDealtValues', WHERE WHAT IT READS IS OF BULK AT MOST 1048576: true; the input reads as it did. -/
def fnExactDealtValuesUptoRow : OpenClaim := { program := "ytlmdckcohoddnaadoor", sum := "83f697544e8a7adc81c0f65358f81e1ccdc3df50500f17e679309afbc07782b9", func := "loop.example/g00877/laws.FnExactDealtValues", spec := "fnExactDealtValues", unfollowed := true, recurses := true, named := ["loop.example/g00877/impl.bodyLengths"], apart := false, laid := [("loop.example/g00877/impl.bodyLengths", laid_loop_example_g00877_impl_bodyLengths)], narrowed := true }
def FnExactDealtValuesUptoSaid : Prop := fnExactDealtValuesUptoRow.holds Tryd.pinned (OpenSpec.upto fnExactDealtValuesSpec)

/-- 'laws.FnExactMessageOf', WHERE WHAT IT READS IS OF BULK AT MOST 1048576: true; the input reads as it did. -/
def fnExactMessageOfUptoRow : OpenClaim := { program := "ytlmdckcohoddnaadoor", sum := "83f697544e8a7adc81c0f65358f81e1ccdc3df50500f17e679309afbc07782b9", func := "loop.example/g00877/laws.FnExactMessageOf", spec := "fnExactMessageOf", unfollowed := true, recurses := true, named := ["loop.example/g00877/impl.bodyLengths"], apart := false, laid := [("loop.example/g00877/impl.bodyLengths", laid_loop_example_g00877_impl_bodyLengths)], narrowed := true }
def FnExactMessageOfUptoSaid : Prop := fnExactMessageOfUptoRow.holds Tryd.pinned (OpenSpec.upto fnExactMessageOfSpec)

/-- 'laws.FnBentMessages', WHERE WHAT IT READS IS OF BULK AT MOST 1048576: true; the input reads as it did. -/
def fnBentMessagesUptoRow : OpenClaim := { program := "ytlmdckcohoddnaadoor", sum := "83f697544e8a7adc81c0f65358f81e1ccdc3df50500f17e679309afbc07782b9", func := "loop.example/g00877/laws.FnBentMessages", spec := "fnBentMessages", unfollowed := true, recurses := true, named := ["loop.example/g00877/impl.bodyLengths"], apart := false, laid := [("loop.example/g00877/impl.bodyLengths", laid_loop_example_g00877_impl_bodyLengths)], narrowed := true }
def FnBentMessagesUptoSaid : Prop := fnBentMessagesUptoRow.holds Tryd.pinned (OpenSpec.upto fnBentMessagesSpec)

/-- 'laws.FnExactTakeMessage', WHERE WHAT IT READS IS OF BULK AT MOST 1048576: true; the input reads as it did. -/
def fnExactTakeMessageUptoRow : OpenClaim := { program := "ytlmdckcohoddnaadoor", sum := "83f697544e8a7adc81c0f65358f81e1ccdc3df50500f17e679309afbc07782b9", func := "loop.example/g00877/laws.FnExactTakeMessage", spec := "fnExactTakeMessage", unfollowed := true, recurses := true, named := ["loop.example/g00877/impl.bodyLengths"], apart := false, laid := [("loop.example/g00877/impl.bodyLengths", laid_loop_example_g00877_impl_bodyLengths)], narrowed := true }
def FnExactTakeMessageUptoSaid : Prop := fnExactTakeMessageUptoRow.holds Tryd.pinned (OpenSpec.upto fnExactTakeMessageSpec)

/-- 'laws.FnExactRunBent', WHERE WHAT IT READS IS OF BULK AT MOST 1048576: true; the input reads as it did. -/
def fnExactRunBentUptoRow : OpenClaim := { program := "ytlmdckcohoddnaadoor", sum := "83f697544e8a7adc81c0f65358f81e1ccdc3df50500f17e679309afbc07782b9", func := "loop.example/g00877/laws.FnExactRunBent", spec := "fnExactRunBent", unfollowed := true, recurses := true, named := ["loop.example/g00877/impl.bodyLengths"], apart := false, laid := [("loop.example/g00877/impl.bodyLengths", laid_loop_example_g00877_impl_bodyLengths)], narrowed := true }
def FnExactRunBentUptoSaid : Prop := fnExactRunBentUptoRow.holds Tryd.pinned (OpenSpec.upto fnExactRunBentSpec)

/-- 'laws.FnExactReplayFor', WHERE WHAT IT READS IS OF BULK AT MOST 1048576: true; the input reads as it did. -/
def fnExactReplayForUptoRow : OpenClaim := { program := "ytlmdckcohoddnaadoor", sum := "83f697544e8a7adc81c0f65358f81e1ccdc3df50500f17e679309afbc07782b9", func := "loop.example/g00877/laws.FnExactReplayFor", spec := "fnExactReplayFor", unfollowed := true, recurses := true, named := ["loop.example/g00877/impl.bodyLengths"], apart := false, laid := [("loop.example/g00877/impl.bodyLengths", laid_loop_example_g00877_impl_bodyLengths)], narrowed := true }
def FnExactReplayForUptoSaid : Prop := fnExactReplayForUptoRow.holds Tryd.pinned (OpenSpec.upto fnExactReplayForSpec)

/-- 'laws.FnExactSilentValues', WHERE WHAT IT READS IS OF BULK AT MOST 1048576: true; the input reads as it did. -/
def fnExactSilentValuesUptoRow : OpenClaim := { program := "ytlmdckcohoddnaadoor", sum := "83f697544e8a7adc81c0f65358f81e1ccdc3df50500f17e679309afbc07782b9", func := "loop.example/g00877/laws.FnExactSilentValues", spec := "fnExactSilentValues", unfollowed := true, recurses := true, named := ["loop.example/g00877/impl.bodyLengths"], apart := false, laid := [("loop.example/g00877/impl.bodyLengths", laid_loop_example_g00877_impl_bodyLengths)], narrowed := true }
def FnExactSilentValuesUptoSaid : Prop := fnExactSilentValuesUptoRow.holds Tryd.pinned (OpenSpec.upto fnExactSilentValuesSpec)

/-- 'laws.FnExactRunPlayers', WHERE WHAT IT READS IS OF BULK AT MOST 1048576: true; the input reads as it did. -/
def fnExactRunPlayersUptoRow : OpenClaim := { program := "ytlmdckcohoddnaadoor", sum := "83f697544e8a7adc81c0f65358f81e1ccdc3df50500f17e679309afbc07782b9", func := "loop.example/g00877/laws.FnExactRunPlayers", spec := "fnExactRunPlayers", unfollowed := true, recurses := true, named := ["loop.example/g00877/impl.bodyLengths"], apart := false, laid := [("loop.example/g00877/impl.bodyLengths", laid_loop_example_g00877_impl_bodyLengths)], narrowed := true }
def FnExactRunPlayersUptoSaid : Prop := fnExactRunPlayersUptoRow.holds Tryd.pinned (OpenSpec.upto fnExactRunPlayersSpec)

end Rows
end Go.Proofs.YtlmdckcohoddnaaDoor
