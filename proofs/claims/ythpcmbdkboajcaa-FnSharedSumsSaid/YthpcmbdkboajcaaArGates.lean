/- Gates: the laws' own helpers. -/
import Derived.Test.YthpcmbdkboajcaaKinds
namespace Go.Proofs.Ythpcmbdkboajcaa
open Go.RowKit
def eGate : Nat := 78
theorem info_Gate : (Try.prog.info? 78).map (fun i => (i.zero, i.size, i.bytes)) = some (some (.agg #[.int .i64 0, .int .i64 0, .int .i64 0]), 3, 24) := by kernel_rfl
theorem madeCells_Gate (n : Nat) : (madeCells #[.int .i64 0, .int .i64 0, .int .i64 0] (n * 3)).toList = List.replicate (n * 3) (Value.int .i64 0) := by
  apply List.ext_getElem (by simp [madeCells])
  intro i h1 h2
  have hm : i % 3 < 3 := Nat.mod_lt _ (by decide)
  simp only [madeCells, Array.toList_map, Array.toList_range, List.getElem_map, List.getElem_range, List.getElem_replicate]
  show (#[.int .i64 0, .int .i64 0, .int .i64 0] : Array Value)[i % 3]! = _
  generalize i % 3 = j at hm
  match j, hm with
  | 0, _ => rfl
  | 1, _ => rfl
  | 2, _ => rfl
end Go.Proofs.Ythpcmbdkboajcaa
