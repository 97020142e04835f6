/- Cut and choose: chances and counts; walks of the program's and the reference's functions. -/
import Derived.Test.YtnhphmhckbjnnaaInts
namespace Go.Proofs.Ytnhphmhckbjnnaa
open Go.RowKit

def okC (n k : Int) : Bool := decide (1 ≤ n ∧ n ≤ 40 ∧ 0 ≤ k ∧ k ≤ n - 1)
theorem okC_range {n k : Int} (h : okC n k = true) : 1 ≤ n ∧ n ≤ 40 ∧ 0 ≤ k ∧ k ≤ n - 1 := by unfold okC at h; simpa using h
set_option maxHeartbeats 400000 in
theorem isChecked_any (n k : Int) (w : World) :
    Calls Try.prog 30 #[.int .i64 n, .int .i64 k] w fun e w' => e = .returned (.bool (okC n k)) ∧ ∃ m, w' = w.drewN m := by
  by_cases h1 : 1 ≤ n <;> by_cases h2 : n ≤ 40 <;> by_cases h3 : 0 ≤ k <;> by_cases h4 : k ≤ n - 1 <;> first | (exfalso; omega) | (go_enter Try.func30, Try.ntmps30; go_wp2; go_ret; exact ⟨ret_bool (by unfold okC; simp; omega), 0, rfl⟩)
set_option maxHeartbeats 400000 in
theorem ccCopies_any (n k : Int) (w : World) :
    Calls Try.prog 33 #[.int .i64 n, .int .i64 k] w fun e w' => e = .returned (.bool (okC n k)) ∧ ∃ m, w' = w.drewN m := by
  by_cases h1 : 1 ≤ n <;> by_cases h2 : n ≤ 40 <;> by_cases h3 : 0 ≤ k <;> by_cases h4 : k ≤ n - 1 <;> first | (exfalso; omega) | (go_enter Try.func33, Try.ntmps33; go_wp2; go_ret; exact ⟨ret_bool (by unfold okC; simp; omega), 0, rfl⟩)
/-- The chance that no checked copy is bad, in lowest terms: numerator, denominator. -/
def missN (n b k : Int) : Int := setsI (n - b) k / (Int.gcd (setsI (n - b) k) (setsI n k) : Int)
def missD (n b k : Int) : Int := setsI n k / (Int.gcd (setsI (n - b) k) (setsI n k) : Int)
theorem setsI_range (n k : Int) (h1 : 0 ≤ n) (h2 : n ≤ 40) : 0 ≤ setsI n k ∧ setsI n k ≤ 4000000000000000000 := by
  unfold setsI
  split
  · omega
  · have := (mb_bd n.toNat (by omega) k.toNat (by omega)).2; omega
theorem setsI_pos (n k : Int) (h2 : n ≤ 40) (h3 : 0 ≤ k) (h4 : k ≤ n) : 1 ≤ setsI n k := by
  unfold setsI
  rw [if_neg (by omega)]
  have := mb_pos n.toNat (by omega) k.toNat (by omega); omega
set_option maxHeartbeats 400000 in
theorem missChance_any (n b k : Int) (w : World) (h1 : 1 ≤ n) (h2 : n ≤ 40) (h3 : 0 ≤ b) (h4 : b ≤ n) (h5 : 0 ≤ k) (h6 : k ≤ n - 1) :
    Calls Try.prog 32 #[.int .i64 n, .int .i64 b, .int .i64 k] w fun e w' => e = .returned (.tuple #[.int .i64 (missN n b k), .int .i64 (missD n b k)]) ∧ ∃ m, w' = w.drewN m := by
  have r1 := setsI_range (n - b) k (by omega) (by omega)
  have r2 := setsI_range n k (by omega) (by omega)
  have r3 := setsI_pos n k (by omega) h5 (by omega)
  go_enter Try.func32, Try.ntmps32
  go_wp2_with (first | (go_at_call 62; refine (sets_any _ _ _ (by omega) (by omega)).mono ?_; rintro e w' ⟨rfl, m, rfl⟩) | (go_at_call 61; refine (reduced_any _ _ _ (by omega) (by omega) (by omega) (by omega)).mono ?_; rintro e w' ⟨rfl, m, rfl⟩))
  go_ret2
  exact ⟨rfl, _, rfl⟩
set_option maxHeartbeats 400000 in
theorem ccMiss_any (n b k : Int) (w : World) (h1 : 1 ≤ n) (h2 : n ≤ 40) (h3 : 0 ≤ b) (h4 : b ≤ n) (h5 : 0 ≤ k) (h6 : k ≤ n - 1) :
    Calls Try.prog 35 #[.int .i64 n, .int .i64 b, .int .i64 k] w fun e w' => e = .returned (.tuple #[.int .i64 (missN n b k), .int .i64 (missD n b k)]) ∧ ∃ m, w' = w.drewN m := by
  have r1 := setsI_range (n - b) k (by omega) (by omega)
  have r2 := setsI_range n k (by omega) (by omega)
  have r3 := setsI_pos n k (by omega) h5 (by omega)
  go_enter Try.func35, Try.ntmps35
  go_wp2_with (first | (go_at_call 64; refine (ccSets_any _ _ _ (by omega) (by omega)).mono ?_; rintro e w' ⟨rfl, m, rfl⟩) | (go_at_call 63; refine (ccPart_any _ _ _ (by omega) (by omega) (by omega) (by omega)).mono ?_; rintro e w' ⟨rfl, m, rfl⟩))
  go_ret2
  exact ⟨rfl, _, rfl⟩
/-- The chance that half of the used copies are bad. -/
def majN (n b k : Int) : Int := if 2 * b < n - k then 0 else missN n b k
def majD (n b k : Int) : Int := if 2 * b < n - k then 1 else missD n b k
set_option maxHeartbeats 400000 in
theorem majorityChance_any (n b k : Int) (w : World) (h1 : 1 ≤ n) (h2 : n ≤ 40) (h3 : 0 ≤ b) (h4 : b ≤ n) (h5 : 0 ≤ k) (h6 : k ≤ n - 1) :
    Calls Try.prog 40 #[.int .i64 n, .int .i64 b, .int .i64 k] w fun e w' => e = .returned (.tuple #[.int .i64 (majN n b k), .int .i64 (majD n b k)]) ∧ ∃ m, w' = w.drewN m := by
  unfold majN majD
  by_cases hb : 2 * b < n - k
  · rw [if_pos hb, if_pos hb]
    go_enter Try.func40, Try.ntmps40
    go_wp2
    go_ret2
    exact ⟨rfl, 0, rfl⟩
  · rw [if_neg hb, if_neg hb]
    go_enter Try.func40, Try.ntmps40
    go_wp2_with (go_at_call 32; refine (missChance_any _ _ _ _ (by omega) (by omega) (by omega) (by omega) (by omega) (by omega)).mono ?_; rintro e w' ⟨rfl, m, rfl⟩)
    go_ret2
    exact ⟨rfl, _, rfl⟩
set_option maxHeartbeats 400000 in
theorem ccMajority_any (n b k : Int) (w : World) (h1 : 1 ≤ n) (h2 : n ≤ 40) (h3 : 0 ≤ b) (h4 : b ≤ n) (h5 : 0 ≤ k) (h6 : k ≤ n - 1) :
    Calls Try.prog 41 #[.int .i64 n, .int .i64 b, .int .i64 k] w fun e w' => e = .returned (.tuple #[.int .i64 (majN n b k), .int .i64 (majD n b k)]) ∧ ∃ m, w' = w.drewN m := by
  unfold majN majD
  by_cases hb : 2 * b < n - k
  · rw [if_pos hb, if_pos hb]
    go_enter Try.func41, Try.ntmps41
    go_wp2
    go_ret2
    exact ⟨rfl, 0, rfl⟩
  · rw [if_neg hb, if_neg hb]
    go_enter Try.func41, Try.ntmps41
    go_wp2_with (go_at_call 35; refine (ccMiss_any _ _ _ _ (by omega) (by omega) (by omega) (by omega) (by omega) (by omega)).mono ?_; rintro e w' ⟨rfl, m, rfl⟩)
    go_ret2
    exact ⟨rfl, _, rfl⟩
end Go.Proofs.Ytnhphmhckbjnnaa
