/- Bits that are shared both ways; the law over them. -/
import Derived.Test.YthpcmbdkboajcaaAreAll
import Derived.Test.YthpcmbdkboajcaaGate
namespace Go.Proofs.Ythpcmbdkboajcaa
open Go.RowKit

/-- Exclusive-or of Go's ints. -/
def xorI (a b : Int) : Int := bits BinOp.xor IntKind.i64 a b
theorem xorI_bit {a b : Int} (ha : a = 0 ∨ a = 1) (hb : b = 0 ∨ b = 1) : xorI a b = 0 ∨ xorI a b = 1 := by
  rcases ha with rfl | rfl <;> rcases hb with rfl | rfl
  · exact Or.inl (by decide +kernel)
  · exact Or.inr (by decide +kernel)
  · exact Or.inr (by decide +kernel)
  · exact Or.inl (by decide +kernel)
def dbB (key i : Int) (k : Nat) : Int := (bitsI [key, i, 24] 2).getD k 0
def dbN (p key i : Int) : Int := numI [key, i, 25] p
theorem dbB_bit (key i : Int) (k : Nat) (h : k < 2) : dbB key i k = 0 ∨ dbB key i k = 1 := bitsI_bit _ _ _ h
theorem bitsI_two (key i : Int) : bitsI [key, i, 24] 2 = [dbB key i 0, dbB key i 1] := rfl
/-- The bit pair and the pair of a double bit. -/
def db1 (key i : Int) : List Int := [dbB key i 1, xorI (dbB key i 0) (dbB key i 1)]
def db2 (p key i : Int) : List Int := [dbN p key i, (dbB key i 0 - dbN p key i) % p]
theorem Own.lit2 (w : World) (b : Nat) (x y : Int) (hb : b ≤ w.heap.size) : Own (w.alloc (.cells #[.int .i64 x, .int .i64 y] 3)) b (some ⟨w.heap.size, 0, none⟩) 2 2 [x, y] := Own.lit w b [x, y] hb (by simp [maxLen])
/-- Two literals laid one behind the other. -/
theorem two_lits {w0 w : World} {B : Nat} (x y u v : Int) (hB : B ≤ w.heap.size) (hb : Below B w0 w) :
    Own ((w.alloc (.cells #[.int .i64 x, .int .i64 y] 3)).alloc (.cells #[.int .i64 u, .int .i64 v] 3)).drew B (some ⟨w.heap.size, 0, none⟩) 2 2 [x, y] ∧
    Own ((w.alloc (.cells #[.int .i64 x, .int .i64 y] 3)).alloc (.cells #[.int .i64 u, .int .i64 v] 3)).drew B (some ⟨w.heap.size + 1, 0, none⟩) 2 2 [u, v] ∧
    Apart (some ⟨w.heap.size, 0, none⟩) 2 (some ⟨w.heap.size + 1, 0, none⟩) 2 ∧
    Below B w0 ((w.alloc (.cells #[.int .i64 x, .int .i64 y] 3)).alloc (.cells #[.int .i64 u, .int .i64 v] 3)).drew := by
  refine ⟨((Own.lit2 w B x y hB).alloc _).drew, ?_, ?_, ((hb.alloc hB _).alloc (by simp; omega) _).drew⟩
  · have := Own.lit2 (w.alloc (.cells #[.int .i64 x, .int .i64 y] 3)) B u v (by simp; omega)
    simp only [World.size_alloc] at this
    exact this.drew
  · intro p q _ _ hp hq
    cases hp; cases hq
    show w.heap.size ≠ w.heap.size + 1
    omega
def cvB (p key k : Int) : Bool := isPr p && inB key 0 1000000000 && inB k 0 1000
theorem cvB_true {p key k : Int} (h : cvB p key k = true) : (2 ≤ p ∧ p ≤ 251) ∧ (0 ≤ key ∧ key ≤ 1000000000) ∧ 0 ≤ k ∧ k ≤ 1000 := by
  unfold cvB at h
  simp only [Bool.and_eq_true] at h
  exact ⟨isPr_range h.1.1, inB_true h.1.2, inB_true h.2⟩
def dbO1 (p key k : Int) : List Int := if cvB p key k then db1 key k else []
def dbO2 (p key k : Int) : List Int := if cvB p key k then db2 p key k else []
theorem dbO1_len (p key k : Int) : (dbO1 p key k).length ≤ 1000000 := by unfold dbO1; split <;> simp [db1]
theorem dbO2_len (p key k : Int) : (dbO2 p key k).length ≤ 1000000 := by unfold dbO2; split <;> simp [db2]
end Go.Proofs.Ythpcmbdkboajcaa
