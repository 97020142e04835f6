/-
  No cell of these rows narrows 'for every input' (looked for: loops, veiled, ifaces, maps, wideKeys, modest, calm, conditions, laid).
  DERIVED. THE GIVEN ROWS OF THIS SEAT. 4 by the template 'for every input the law returns true; each argument reads behind the call as it read before'; 0 by the template 'total and deterministic' (their statements: YtjgbhokilagmoaaTotals.lean).
  GIVEN WITH THE SEED: the statements are not yours to turn. If you find one false, say at which input.
  Laid BY PROGRAM, IN A SANDBOX (cutbox-rows.mjs): the forced cells as the released guide's own fill.sh prints them over the translation 80a7db529be16cb1… (all of the seat's roots in one cut). By AI agents, Wed Nov 11 2026. No macro, syntax, notation, axiom, sorry.
-/
import Derived.Test.YtjgbhokilagmoaaChecked
import GoSem.Claim
import GoSem.ClaimJoined
import GoSem.ClaimMapViews
import Derived.JoinedTies
import Derived.KernelRfl
namespace Go.Proofs.Ytjgbhokilagmoaa
/- THE CELL 'sum', in the pinned program and in every row, IS THE sha256 OF THE DUMP (.gsa) THAT YtjgbhokilagmoaaProg.lean LOADS. Nothing in Lean hashes anything: it is a label: what it is worth is what the hold of that sum in a sandbox is worth. -/
noncomputable def Try.pinned : Pinned := { name := "ytjgbhokilagmoaa", sum := "80a7db529be16cb11893ddca194f3f5e84389c307816cc1cecf85f51bad4fdab", checked := Try.checked }
namespace Rows
def none {H : Type} : Left H := { results := [], args := [] }

/-- 'laws.FnCutAndChoose': WHATEVER THE INPUT: true; the input reads as it did. -/
def fnCutAndChooseSpec : ChangeSpec := { name := "fnCutAndChoose", fn := fun _ => fun
  | [d1, d2] => { results := [.lit (.bool true)], args := [d1, d2] }
  | _ => none }
def fnCutAndChooseRow : OpenClaim := { program := "ytjgbhokilagmoaa", sum := "80a7db529be16cb11893ddca194f3f5e84389c307816cc1cecf85f51bad4fdab", func := "loop.example/g00877/laws.FnCutAndChoose", spec := "fnCutAndChoose", unfollowed := true, recurses := true, apart := false }
def FnCutAndChooseSaid : Prop := fnCutAndChooseRow.holds Try.pinned (OpenSpec.ofChange fnCutAndChooseSpec)

/-- ITS FALSE NEIGHBOUR: 'it returns false'. Refute it at one input. -/
def fnCutAndChooseWrong : ChangeSpec := { name := "fnCutAndChoose", fn := fun _ => fun
  | [d1, d2] => { results := [.lit (.bool false)], args := [d1, d2] }
  | _ => none }
def FnCutAndChooseWrongFalsely : Prop := fnCutAndChooseRow.holds Try.pinned (OpenSpec.ofChange fnCutAndChooseWrong)

/-- 'laws.FnBatches': WHATEVER THE INPUT: true; the input reads as it did. -/
def fnBatchesSpec : ChangeSpec := { name := "fnBatches", fn := fun _ => fun
  | [d1, d2] => { results := [.lit (.bool true)], args := [d1, d2] }
  | _ => none }
def fnBatchesRow : OpenClaim := { program := "ytjgbhokilagmoaa", sum := "80a7db529be16cb11893ddca194f3f5e84389c307816cc1cecf85f51bad4fdab", func := "loop.example/g00877/laws.FnBatches", spec := "fnBatches", unfollowed := true, recurses := true, apart := false }
def FnBatchesSaid : Prop := fnBatchesRow.holds Try.pinned (OpenSpec.ofChange fnBatchesSpec)

/-- ITS FALSE NEIGHBOUR: 'it returns false'. Refute it at one input. -/
def fnBatchesWrong : ChangeSpec := { name := "fnBatches", fn := fun _ => fun
  | [d1, d2] => { results := [.lit (.bool false)], args := [d1, d2] }
  | _ => none }
def FnBatchesWrongFalsely : Prop := fnBatchesRow.holds Try.pinned (OpenSpec.ofChange fnBatchesWrong)

/-- 'laws.FnCopies': WHATEVER THE INPUT: true; the input reads as it did. -/
def fnCopiesSpec : ChangeSpec := { name := "fnCopies", fn := fun _ => fun
  | [d1, d2] => { results := [.lit (.bool true)], args := [d1, d2] }
  | _ => none }
def fnCopiesRow : OpenClaim := { program := "ytjgbhokilagmoaa", sum := "80a7db529be16cb11893ddca194f3f5e84389c307816cc1cecf85f51bad4fdab", func := "loop.example/g00877/laws.FnCopies", spec := "fnCopies", recurses := true, apart := false }
def FnCopiesSaid : Prop := fnCopiesRow.holds Try.pinned (OpenSpec.ofChange fnCopiesSpec)

/-- ITS FALSE NEIGHBOUR: 'it returns false'. Refute it at one input. -/
def fnCopiesWrong : ChangeSpec := { name := "fnCopies", fn := fun _ => fun
  | [d1, d2] => { results := [.lit (.bool false)], args := [d1, d2] }
  | _ => none }
def FnCopiesWrongFalsely : Prop := fnCopiesRow.holds Try.pinned (OpenSpec.ofChange fnCopiesWrong)

/-- 'laws.FnExactCheckedSet': WHATEVER THE INPUT: true; the input reads as it did. -/
def fnExactCheckedSetSpec : ChangeSpec := { name := "fnExactCheckedSet", fn := fun _ => fun
  | [d1, d2, d3] => { results := [.lit (.bool true)], args := [d1, d2, d3] }
  | _ => none }
def fnExactCheckedSetRow : OpenClaim := { program := "ytjgbhokilagmoaa", sum := "80a7db529be16cb11893ddca194f3f5e84389c307816cc1cecf85f51bad4fdab", func := "loop.example/g00877/laws.FnExactCheckedSet", spec := "fnExactCheckedSet", recurses := true, apart := false }
def FnExactCheckedSetSaid : Prop := fnExactCheckedSetRow.holds Try.pinned (OpenSpec.ofChange fnExactCheckedSetSpec)

/-- ITS FALSE NEIGHBOUR: 'it returns false'. Refute it at one input. -/
def fnExactCheckedSetWrong : ChangeSpec := { name := "fnExactCheckedSet", fn := fun _ => fun
  | [d1, d2, d3] => { results := [.lit (.bool false)], args := [d1, d2, d3] }
  | _ => none }
def FnExactCheckedSetWrongFalsely : Prop := fnExactCheckedSetRow.holds Try.pinned (OpenSpec.ofChange fnExactCheckedSetWrong)

/- THE SECOND FORM. 'bulk': how many values and letters a reading holds, each counted each time it is reached (what is shared counts as often as it is met; a slice's spare places count too). A statement '..UptoSaid' is the law's where the arguments, and the package variables that the reading takes, are together of bulk at most 1048576: NARROWER than '..Said'. Prove '..Said' where nothing that the law and all that it calls make is longer than what came in: it says more and counts as full. Else prove '..UptoSaid'. A law counts once. -/
mutual
def uptoBulk {H : Type} : DataW H → Nat
  | .lit (.string bytes) => bytes.length + 1
  | .lit _ => 1
  | .nil => 1
  | .ptr d => uptoBulk d + 1
  | .slice elems spare => uptoBulkAll elems + uptoBulkAll spare + 1
  | .agg parts => uptoBulkAll parts + 1
  | .iface _ d => uptoBulk d + 1
  | .map entries => uptoBulkEntries entries + 1
  | .held _ => 1
def uptoBulkAll {H : Type} : List (DataW H) → Nat
  | [] => 0
  | d :: r => uptoBulk d + uptoBulkAll r
def uptoBulkEntries {H : Type} : List (Lit × DataW H) → Nat
  | [] => 0
  | x :: r => uptoBulkEntry x + uptoBulkEntries r
def uptoBulkEntry {H : Type} : Lit × DataW H → Nat
  | (.string bytes, d) => bytes.length + uptoBulk d + 1
  | (_, d) => uptoBulk d + 1
 end
def uptoSmall : (H : Type) → List (DataW H) → Bool := fun _ ds => decide (uptoBulkAll ds ≤ 1048576)
def OpenSpec.upto (s : _root_.Go.ChangeSpec) : _root_.Go.OpenSpec := { _root_.Go.OpenSpec.ofChange s with cond := some uptoSmall }

/-- 'laws.FnCutAndChoose', WHERE WHAT IT READS IS OF BULK AT MOST 1048576: true; the input reads as it did. -/
def fnCutAndChooseUptoRow : OpenClaim := { program := "ytjgbhokilagmoaa", sum := "80a7db529be16cb11893ddca194f3f5e84389c307816cc1cecf85f51bad4fdab", func := "loop.example/g00877/laws.FnCutAndChoose", spec := "fnCutAndChoose", unfollowed := true, recurses := true, apart := false, narrowed := true }
def FnCutAndChooseUptoSaid : Prop := fnCutAndChooseUptoRow.holds Try.pinned (OpenSpec.upto fnCutAndChooseSpec)

/-- 'laws.FnBatches', WHERE WHAT IT READS IS OF BULK AT MOST 1048576: true; the input reads as it did. -/
def fnBatchesUptoRow : OpenClaim := { program := "ytjgbhokilagmoaa", sum := "80a7db529be16cb11893ddca194f3f5e84389c307816cc1cecf85f51bad4fdab", func := "loop.example/g00877/laws.FnBatches", spec := "fnBatches", unfollowed := true, recurses := true, apart := false, narrowed := true }
def FnBatchesUptoSaid : Prop := fnBatchesUptoRow.holds Try.pinned (OpenSpec.upto fnBatchesSpec)

/-- 'laws.FnCopies', WHERE WHAT IT READS IS OF BULK AT MOST 1048576: true; the input reads as it did. -/
def fnCopiesUptoRow : OpenClaim := { program := "ytjgbhokilagmoaa", sum := "80a7db529be16cb11893ddca194f3f5e84389c307816cc1cecf85f51bad4fdab", func := "loop.example/g00877/laws.FnCopies", spec := "fnCopies", recurses := true, apart := false, narrowed := true }
def FnCopiesUptoSaid : Prop := fnCopiesUptoRow.holds Try.pinned (OpenSpec.upto fnCopiesSpec)

/-- 'laws.FnExactCheckedSet', WHERE WHAT IT READS IS OF BULK AT MOST 1048576: true; the input reads as it did. -/
def fnExactCheckedSetUptoRow : OpenClaim := { program := "ytjgbhokilagmoaa", sum := "80a7db529be16cb11893ddca194f3f5e84389c307816cc1cecf85f51bad4fdab", func := "loop.example/g00877/laws.FnExactCheckedSet", spec := "fnExactCheckedSet", recurses := true, apart := false, narrowed := true }
def FnExactCheckedSetUptoSaid : Prop := fnExactCheckedSetUptoRow.holds Try.pinned (OpenSpec.upto fnExactCheckedSetSpec)

end Rows
end Go.Proofs.Ytjgbhokilagmoaa
