/- Elements of small fields: tests on numbers and lists. -/
import Derived.Test.YthpcmbdkboajcaaFind
namespace Go.Proofs.Ythpcmbdkboajcaa
open Go.RowKit

def elB (p a : Int) : Bool := isPr p && decide (0 ≤ a ∧ a ≤ p - 1)
def elsB (p : Int) (l : List Int) : Bool := isPr p && allB l 0 (p - 1)
theorem elB_true {p a : Int} (h : elB p a = true) : isPr p = true ∧ 2 ≤ p ∧ p ≤ 251 ∧ 0 ≤ a ∧ a ≤ p - 1 := by
  unfold elB at h
  simp only [Bool.and_eq_true, decide_eq_true_eq] at h
  have := isPr_range h.1
  exact ⟨h.1, this.1, this.2, h.2.1, h.2.2⟩
theorem elsB_true {p : Int} {l : List Int} (h : elsB p l = true) : isPr p = true ∧ 2 ≤ p ∧ p ≤ 251 ∧ allB l 0 (p - 1) = true := by
  unfold elsB at h
  simp only [Bool.and_eq_true] at h
  have := isPr_range h.1
  exact ⟨h.1, this.1, this.2, h.2⟩
theorem elsB_one (p a : Int) : elsB p [a] = elB p a := by simp [elsB, elB, allB]
theorem elsB_two (p a b : Int) : elsB p [a, b] = (elB p a && elB p b) := by
  unfold elsB elB allB; cases isPr p <;> simp
set_option maxHeartbeats 400000 in
theorem isElement_any (p a : Int) (w : World) :
    Calls Try.prog 84 #[.int .i64 p, .int .i64 a] w fun e w' => e = .returned (.bool (elB p a)) ∧ ∃ m, w' = w.drewN m := by
  unfold elB
  cases hp : isPr p
  · simp only [Bool.false_and]
    go_enter Try.func84, Try.ntmps84
    go_wp2_with (first | (go_at_call 52; refine (IsPrime_any _ _).mono ?_; rintro e w' ⟨rfl, m, rfl⟩))
    go_ret
    exact ⟨rfl, _, rfl⟩
  · obtain ⟨r1, r2⟩ := isPr_range hp
    simp only [Bool.true_and]
    by_cases h1 : 0 ≤ a
    · by_cases h2 : a ≤ p - 1
      · rw [decide_eq_true ⟨h1, h2⟩]
        go_enter Try.func84, Try.ntmps84
        go_wp2_with (first | (go_at_call 52; refine (IsPrime_any _ _).mono ?_; rintro e w' ⟨rfl, m, rfl⟩) | go_in)
        go_ret
        exact ⟨rfl, _, rfl⟩
      · rw [decide_eq_false (by omega)]
        have hb : decide (a ≤ p - 1) = false := by simp; omega
        go_enter Try.func84, Try.ntmps84
        go_wp2_with (first | (go_at_call 52; refine (IsPrime_any _ _).mono ?_; rintro e w' ⟨rfl, m, rfl⟩) | go_in)
        go_ret
        exact ⟨rfl, _, rfl⟩
    · rw [decide_eq_false (by omega)]
      go_enter Try.func84, Try.ntmps84
      go_wp2_with (first | (go_at_call 52; refine (IsPrime_any _ _).mono ?_; rintro e w' ⟨rfl, m, rfl⟩) | go_in)
      go_ret
      exact ⟨rfl, _, rfl⟩
set_option maxHeartbeats 400000 in
theorem fpIn_any (p : Int) (a : Option Addr) (n c : Nat) (l : List Int) (w : World) (h : Ints w a n c l) :
    Calls Try.prog 46 #[.int .i64 p, .slice a n c] w fun e w' => e = .returned (.bool (elsB p l)) ∧ ∃ m, w' = w.drewN m := by
  unfold elsB
  cases hp : isPr p
  · simp only [Bool.false_and]
    go_enter Try.func46, Try.ntmps46
    go_wp2_with (first | (go_at_call 40; refine (fpGood_any _ _).mono ?_; rintro e w' ⟨rfl, m, rfl⟩))
    go_ret
    exact ⟨rfl, _, rfl⟩
  · obtain ⟨r1, r2⟩ := isPr_range hp
    simp only [Bool.true_and]
    go_enter Try.func46, Try.ntmps46
    go_wp2_with (first | (go_at_call 40; refine (fpGood_any _ _).mono ?_; rintro e w' ⟨rfl, m, rfl⟩) | (go_at_call 48; refine (l1All_any _ _ _ l _ _ _ (by exact h.drewN _)).mono ?_; rintro e w' ⟨rfl, m, rfl⟩))
    go_ret
    exact ⟨rfl, _, rfl⟩
end Go.Proofs.Ythpcmbdkboajcaa
