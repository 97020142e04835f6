/- Cut and choose: the exported functions of chances, and the laws over them. -/
import Derived.Test.YtnhphmhckbjnnaaChoose1
import Derived.Test.YtnhphmhckbjnnaaWidth
namespace Go.Proofs.Ytnhphmhckbjnnaa
open Go.RowKit


def setsOfV (n k : Int) : Int := if 0 ≤ n ∧ n ≤ 40 ∧ -100 ≤ k ∧ k ≤ 100 then setsI n k else 0
def setsOfB (n k : Int) : Bool := decide (0 ≤ n ∧ n ≤ 40 ∧ -100 ≤ k ∧ k ≤ 100)
def allBadN (n k : Int) : Int := if okC n k then 1 else 0
def allBadD (n k : Int) : Int := if okC n k then setsI n k else 0
def missVN (n b k : Int) : Int := if okC n k ∧ 0 ≤ b ∧ b ≤ n then missN n b k else 0
def missVD (n b k : Int) : Int := if okC n k ∧ 0 ≤ b ∧ b ≤ n then missD n b k else 0
def majVN (n b k : Int) : Int := if okC n k ∧ 0 ≤ b ∧ b ≤ n then majN n b k else 0
def majVD (n b k : Int) : Int := if okC n k ∧ 0 ≤ b ∧ b ≤ n then majD n b k else 0
def missVB (n b k : Int) : Bool := okC n k && decide (0 ≤ b ∧ b ≤ n)
set_option maxHeartbeats 400000 in
theorem MissChance_any (n b k : Int) (w : World) :
    Calls Try.prog 7 #[.int .i64 n, .int .i64 b, .int .i64 k] w fun e w' => e = .returned (.tuple #[.int .i64 (missVN n b k), .int .i64 (missVD n b k), .bool (missVB n b k)]) ∧ ∃ m, w' = w.drewN m := by
  unfold missVN missVD missVB
  cases h : okC n k
  · simp only [Bool.false_eq_true, false_and, if_false, Bool.false_and]
    go_enter Try.func7, Try.ntmps7
    go_wp2_with (first | (go_at_call 30; refine (isChecked_any _ _ _).mono ?_; rintro e w' ⟨rfl, m, rfl⟩))
    go_ret3
    exact ⟨rfl, _, rfl⟩
  · obtain ⟨h1, h2, h3, h4⟩ := okC_range h
    by_cases h5 : 0 ≤ b
    · by_cases h6 : b ≤ n
      · simp only [h5, h6, if_true, and_true, Bool.true_and, decide_true]
        go_enter Try.func7, Try.ntmps7
        go_wp2_with (first | (go_at_call 30; refine (isChecked_any _ _ _).mono ?_; rintro e w' ⟨rfl, m, rfl⟩) | (go_at_call 32; refine (missChance_any _ _ _ _ (by omega) (by omega) (by omega) (by omega) (by omega) (by omega)).mono ?_; rintro e w' ⟨rfl, m, rfl⟩) | go_in)
        go_ret3
        exact ⟨rfl, _, rfl⟩
      · simp only [h5, h6, and_false, if_false, Bool.true_and, decide_false]
        have d6 : decide (b ≤ n) = false := by simp; omega
        go_enter Try.func7, Try.ntmps7
        go_wp2_with (first | (go_at_call 30; refine (isChecked_any _ _ _).mono ?_; rintro e w' ⟨rfl, m, rfl⟩) | go_in)
        go_ret3
        exact ⟨rfl, _, rfl⟩
    · simp only [h5, false_and, and_false, if_false, Bool.true_and, decide_false]
      go_enter Try.func7, Try.ntmps7
      go_wp2_with (first | (go_at_call 30; refine (isChecked_any _ _ _).mono ?_; rintro e w' ⟨rfl, m, rfl⟩) | go_in)
      go_ret3
      exact ⟨rfl, _, rfl⟩
set_option maxHeartbeats 400000 in
theorem spec_MissChance_any (n b k : Int) (w : World) :
    Calls Try.prog 8 #[.int .i64 n, .int .i64 b, .int .i64 k] w fun e w' => e = .returned (.tuple #[.int .i64 (missVN n b k), .int .i64 (missVD n b k), .bool (missVB n b k)]) ∧ ∃ m, w' = w.drewN m := by
  unfold missVN missVD missVB
  cases h : okC n k
  · simp only [Bool.false_eq_true, false_and, if_false, Bool.false_and]
    go_enter Try.func8, Try.ntmps8
    go_wp2_with (first | (go_at_call 33; refine (ccCopies_any _ _ _).mono ?_; rintro e w' ⟨rfl, m, rfl⟩))
    go_ret3
    exact ⟨rfl, _, rfl⟩
  · obtain ⟨h1, h2, h3, h4⟩ := okC_range h
    by_cases h5 : 0 ≤ b
    · by_cases h6 : b ≤ n
      · simp only [h5, h6, if_true, and_true, Bool.true_and, decide_true]
        go_enter Try.func8, Try.ntmps8
        go_wp2_with (first | (go_at_call 33; refine (ccCopies_any _ _ _).mono ?_; rintro e w' ⟨rfl, m, rfl⟩) | (go_at_call 35; refine (ccMiss_any _ _ _ _ (by omega) (by omega) (by omega) (by omega) (by omega) (by omega)).mono ?_; rintro e w' ⟨rfl, m, rfl⟩) | go_in)
        go_ret3
        exact ⟨rfl, _, rfl⟩
      · simp only [h5, h6, and_false, if_false, Bool.true_and, decide_false]
        have d6 : decide (b ≤ n) = false := by simp; omega
        go_enter Try.func8, Try.ntmps8
        go_wp2_with (first | (go_at_call 33; refine (ccCopies_any _ _ _).mono ?_; rintro e w' ⟨rfl, m, rfl⟩) | go_in)
        go_ret3
        exact ⟨rfl, _, rfl⟩
    · simp only [h5, false_and, and_false, if_false, Bool.true_and, decide_false]
      go_enter Try.func8, Try.ntmps8
      go_wp2_with (first | (go_at_call 33; refine (ccCopies_any _ _ _).mono ?_; rintro e w' ⟨rfl, m, rfl⟩) | go_in)
      go_ret3
      exact ⟨rfl, _, rfl⟩
set_option maxHeartbeats 400000 in
theorem MajorityChance_any (n b k : Int) (w : World) :
    Calls Try.prog 13 #[.int .i64 n, .int .i64 b, .int .i64 k] w fun e w' => e = .returned (.tuple #[.int .i64 (majVN n b k), .int .i64 (majVD n b k), .bool (missVB n b k)]) ∧ ∃ m, w' = w.drewN m := by
  unfold majVN majVD missVB
  cases h : okC n k
  · simp only [Bool.false_eq_true, false_and, if_false, Bool.false_and]
    go_enter Try.func13, Try.ntmps13
    go_wp2_with (first | (go_at_call 30; refine (isChecked_any _ _ _).mono ?_; rintro e w' ⟨rfl, m, rfl⟩))
    go_ret3
    exact ⟨rfl, _, rfl⟩
  · obtain ⟨h1, h2, h3, h4⟩ := okC_range h
    by_cases h5 : 0 ≤ b
    · by_cases h6 : b ≤ n
      · simp only [h5, h6, if_true, and_true, Bool.true_and, decide_true]
        go_enter Try.func13, Try.ntmps13
        go_wp2_with (first | (go_at_call 30; refine (isChecked_any _ _ _).mono ?_; rintro e w' ⟨rfl, m, rfl⟩) | (go_at_call 40; refine (majorityChance_any _ _ _ _ (by omega) (by omega) (by omega) (by omega) (by omega) (by omega)).mono ?_; rintro e w' ⟨rfl, m, rfl⟩) | go_in)
        go_ret3
        exact ⟨rfl, _, rfl⟩
      · simp only [h5, h6, and_false, if_false, Bool.true_and, decide_false]
        have d6 : decide (b ≤ n) = false := by simp; omega
        go_enter Try.func13, Try.ntmps13
        go_wp2_with (first | (go_at_call 30; refine (isChecked_any _ _ _).mono ?_; rintro e w' ⟨rfl, m, rfl⟩) | go_in)
        go_ret3
        exact ⟨rfl, _, rfl⟩
    · simp only [h5, false_and, and_false, if_false, Bool.true_and, decide_false]
      go_enter Try.func13, Try.ntmps13
      go_wp2_with (first | (go_at_call 30; refine (isChecked_any _ _ _).mono ?_; rintro e w' ⟨rfl, m, rfl⟩) | go_in)
      go_ret3
      exact ⟨rfl, _, rfl⟩
set_option maxHeartbeats 400000 in
theorem spec_MajorityChance_any (n b k : Int) (w : World) :
    Calls Try.prog 14 #[.int .i64 n, .int .i64 b, .int .i64 k] w fun e w' => e = .returned (.tuple #[.int .i64 (majVN n b k), .int .i64 (majVD n b k), .bool (missVB n b k)]) ∧ ∃ m, w' = w.drewN m := by
  unfold majVN majVD missVB
  cases h : okC n k
  · simp only [Bool.false_eq_true, false_and, if_false, Bool.false_and]
    go_enter Try.func14, Try.ntmps14
    go_wp2_with (first | (go_at_call 33; refine (ccCopies_any _ _ _).mono ?_; rintro e w' ⟨rfl, m, rfl⟩))
    go_ret3
    exact ⟨rfl, _, rfl⟩
  · obtain ⟨h1, h2, h3, h4⟩ := okC_range h
    by_cases h5 : 0 ≤ b
    · by_cases h6 : b ≤ n
      · simp only [h5, h6, if_true, and_true, Bool.true_and, decide_true]
        go_enter Try.func14, Try.ntmps14
        go_wp2_with (first | (go_at_call 33; refine (ccCopies_any _ _ _).mono ?_; rintro e w' ⟨rfl, m, rfl⟩) | (go_at_call 41; refine (ccMajority_any _ _ _ _ (by omega) (by omega) (by omega) (by omega) (by omega) (by omega)).mono ?_; rintro e w' ⟨rfl, m, rfl⟩) | go_in)
        go_ret3
        exact ⟨rfl, _, rfl⟩
      · simp only [h5, h6, and_false, if_false, Bool.true_and, decide_false]
        have d6 : decide (b ≤ n) = false := by simp; omega
        go_enter Try.func14, Try.ntmps14
        go_wp2_with (first | (go_at_call 33; refine (ccCopies_any _ _ _).mono ?_; rintro e w' ⟨rfl, m, rfl⟩) | go_in)
        go_ret3
        exact ⟨rfl, _, rfl⟩
    · simp only [h5, false_and, and_false, if_false, Bool.true_and, decide_false]
      go_enter Try.func14, Try.ntmps14
      go_wp2_with (first | (go_at_call 33; refine (ccCopies_any _ _ _).mono ?_; rintro e w' ⟨rfl, m, rfl⟩) | go_in)
      go_ret3
      exact ⟨rfl, _, rfl⟩
end Go.Proofs.Ytnhphmhckbjnnaa
