/- Elements of small fields: tests on numbers and lists. -/
import Derived.Test.YtjndhgjmnoiegaaDoorFind
namespace Go.Proofs.YtjndhgjmnoiegaaDoor
open Go.RowKit

def elB (p a : Int) : Bool := isPr p && decide (0 ≤ a ∧ a ≤ p - 1)
def elsB (p : Int) (l : List Int) : Bool := isPr p && allB l 0 (p - 1)
theorem elB_true {p a : Int} (h : elB p a = true) : isPr p = true ∧ 2 ≤ p ∧ p ≤ 251 ∧ 0 ≤ a ∧ a ≤ p - 1 := by
  unfold elB at h
  simp only [Bool.and_eq_true, decide_eq_true_eq] at h
  have := isPr_range h.1
  exact ⟨h.1, this.1, this.2, h.2.1, h.2.2⟩
theorem elsB_true {p : Int} {l : List Int} (h : elsB p l = true) : isPr p = true ∧ 2 ≤ p ∧ p ≤ 251 ∧ allB l 0 (p - 1) = true := by
  unfold elsB at h
  simp only [Bool.and_eq_true] at h
  have := isPr_range h.1
  exact ⟨h.1, this.1, this.2, h.2⟩
theorem elsB_one (p a : Int) : elsB p [a] = elB p a := by simp [elsB, elB, allB]
theorem elsB_two (p a b : Int) : elsB p [a, b] = (elB p a && elB p b) := by
  unfold elsB elB allB; cases isPr p <;> simp
end Go.Proofs.YtjndhgjmnoiegaaDoor
