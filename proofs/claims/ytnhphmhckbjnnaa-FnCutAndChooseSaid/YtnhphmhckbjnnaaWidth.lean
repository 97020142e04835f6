/- The width of a number: both loops return the least exponent. -/
import Derived.Test.YtnhphmhckbjnnaaBase
namespace Go.Proofs.Ytnhphmhckbjnnaa
open Go.RowKit

/-- The least exponent of 2 that reaches n (n at most 256). -/
def wid (n : Int) : Nat := if n ≤ 1 then 0 else if n ≤ 2 then 1 else if n ≤ 4 then 2 else if n ≤ 8 then 3 else if n ≤ 16 then 4 else if n ≤ 32 then 5 else if n ≤ 64 then 6 else if n ≤ 128 then 7 else 8

theorem wid_cases (n : Int) : (n ≤ 1 ∧ wid n = 0) ∨ (1 < n ∧ n ≤ 2 ∧ wid n = 1) ∨ (2 < n ∧ n ≤ 4 ∧ wid n = 2) ∨ (4 < n ∧ n ≤ 8 ∧ wid n = 3) ∨ (8 < n ∧ n ≤ 16 ∧ wid n = 4) ∨ (16 < n ∧ n ≤ 32 ∧ wid n = 5) ∨
    (32 < n ∧ n ≤ 64 ∧ wid n = 6) ∨ (64 < n ∧ n ≤ 128 ∧ wid n = 7) ∨ (128 < n ∧ wid n = 8) := by
  unfold wid
  (repeat' split) <;> omega
theorem wid_le (n : Int) : wid n ≤ 8 := by have := wid_cases n; omega
theorem wid_lt (n : Int) (k : Nat) (h : n ≤ 256) (hk : k ≤ wid n) : k < wid n ↔ (2 : Int) ^ k < n := by
  have := wid_cases n
  generalize wid n = v at *
  rcases (by omega : k = 0 ∨ k = 1 ∨ k = 2 ∨ k = 3 ∨ k = 4 ∨ k = 5 ∨ k = 6 ∨ k = 7 ∨ k = 8) with rfl | rfl | rfl | rfl | rfl | rfl | rfl | rfl | rfl <;>
    omega

theorem pow_in (k : Nat) (h : k ≤ 8) : wrap64 ((2 : Int) ^ k) = (2 : Int) ^ k := by
  apply IntWalk.wrap64_in <;>
  rcases (by omega : k = 0 ∨ k = 1 ∨ k = 2 ∨ k = 3 ∨ k = 4 ∨ k = 5 ∨ k = 6 ∨ k = 7 ∨ k = 8) with rfl | rfl | rfl | rfl | rfl | rfl | rfl | rfl | rfl <;> omega

end Go.Proofs.Ytnhphmhckbjnnaa
