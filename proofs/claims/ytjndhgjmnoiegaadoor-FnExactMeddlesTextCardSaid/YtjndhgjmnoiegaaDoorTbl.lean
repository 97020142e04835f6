/- The table of the bodies' lengths. -/
import Derived.Test.YtjndhgjmnoiegaaDoorKinds
namespace Go.Proofs.YtjndhgjmnoiegaaDoor
open Go.RowKit

/-- What the program's one table holds: 1, 4, 2. -/
def Tbl (w : World) : Prop := w.cell? ⟨1, 0, none⟩ = some (.int .i64 1) ∧ w.cell? ⟨1, 1, none⟩ = some (.int .i64 4) ∧ w.cell? ⟨1, 2, none⟩ = some (.int .i64 2)
theorem Tbl.below {w w' : World} (h : Tbl w) (hb : Below w.heap.size w w') : Tbl w' := ⟨keepC hb h.1, keepC hb h.2.1, keepC hb h.2.2⟩
theorem Tbl.alloc {w : World} (h : Tbl w) (o : Obj) : Tbl (w.alloc o) := h.below ((Below.refl _ _).alloc (Nat.le_refl _) _)
theorem Tbl.drew {w : World} (h : Tbl w) : Tbl w.drew := h
/-- The length of the body of a step. -/
def blen (i : Nat) : Nat := if i = 0 then 1 else if i = 1 then 4 else 2
theorem Tbl.at {w : World} (h : Tbl w) (i : Nat) (hi : i < 3) : w.cell? ⟨1, i, none⟩ = some (.int .i64 (blen i)) := by
  have : i = 0 ∨ i = 1 ∨ i = 2 := by omega
  rcases this with rfl | rfl | rfl
  · exact h.1
  · exact h.2.1
  · exact h.2.2
theorem blen_bd (i : Nat) : 1 ≤ blen i ∧ blen i ≤ 4 := by unfold blen; split <;> (try split) <;> omega
end Go.Proofs.YtjndhgjmnoiegaaDoor
