/- Cut and choose: the exported functions of chances, and the laws over them. -/
import Derived.Test.YtjgbhokilagmoaaChoose1
import Derived.Test.YtjgbhokilagmoaaWidth
namespace Go.Proofs.Ytjgbhokilagmoaa
open Go.RowKit


def setsOfV (n k : Int) : Int := if 0 ≤ n ∧ n ≤ 40 ∧ -100 ≤ k ∧ k ≤ 100 then setsI n k else 0
def setsOfB (n k : Int) : Bool := decide (0 ≤ n ∧ n ≤ 40 ∧ -100 ≤ k ∧ k ≤ 100)
set_option maxHeartbeats 400000 in
theorem SetsOf_any (n k : Int) (w : World) :
    Calls Try.prog 48 #[.int .i64 n, .int .i64 k] w fun e w' => e = .returned (.tuple #[.int .i64 (setsOfV n k), .bool (setsOfB n k)]) ∧ ∃ m, w' = w.drewN m := by
  by_cases h1 : 0 ≤ n <;> by_cases h2 : n ≤ 40 <;> by_cases h3 : -100 ≤ k <;> by_cases h4 : k ≤ 100 <;> first | (exfalso; omega) | (go_enter Try.func48, Try.ntmps48; go_wp2_with (first | (go_at_call 111; refine (sets_any _ _ _ (by omega) (by omega)).mono ?_; rintro e w' ⟨rfl, m, rfl⟩) | go_in); go_ret2; exact ⟨ret_2 (v_int (by unfold setsOfV; first | rw [if_pos (by omega)] | rw [if_neg (by omega)])) (v_bool (by unfold setsOfB; simp; omega)), by first | exact ⟨_, rfl⟩ | exact ⟨0, rfl⟩⟩)
theorem spec_SetsOf_any (n k : Int) (w : World) :
    Calls Try.prog 49 #[.int .i64 n, .int .i64 k] w fun e w' => e = .returned (.tuple #[.int .i64 (setsOfV n k), .bool (setsOfB n k)]) ∧ ∃ m, w' = w.drewN m := by
  by_cases h1 : 0 ≤ n <;> by_cases h2 : n ≤ 40 <;> by_cases h3 : -100 ≤ k <;> by_cases h4 : k ≤ 100 <;> first | (exfalso; omega) | (go_enter Try.func49, Try.ntmps49; go_wp2_with (first | (go_at_call 112; refine (ccSets_any _ _ _ (by omega) (by omega)).mono ?_; rintro e w' ⟨rfl, m, rfl⟩) | go_in); go_ret2; exact ⟨ret_2 (v_int (by unfold setsOfV; first | rw [if_pos (by omega)] | rw [if_neg (by omega)])) (v_bool (by unfold setsOfB; simp; omega)), by first | exact ⟨_, rfl⟩ | exact ⟨0, rfl⟩⟩)
def allBadN (n k : Int) : Int := if okC n k then 1 else 0
def allBadD (n k : Int) : Int := if okC n k then setsI n k else 0
def missVN (n b k : Int) : Int := if okC n k ∧ 0 ≤ b ∧ b ≤ n then missN n b k else 0
def missVD (n b k : Int) : Int := if okC n k ∧ 0 ≤ b ∧ b ≤ n then missD n b k else 0
def majVN (n b k : Int) : Int := if okC n k ∧ 0 ≤ b ∧ b ≤ n then majN n b k else 0
def majVD (n b k : Int) : Int := if okC n k ∧ 0 ≤ b ∧ b ≤ n then majD n b k else 0
def missVB (n b k : Int) : Bool := okC n k && decide (0 ≤ b ∧ b ≤ n)
set_option maxHeartbeats 400000 in
theorem AllBadChance_any (n k : Int) (w : World) :
    Calls Try.prog 54 #[.int .i64 n, .int .i64 k] w fun e w' => e = .returned (.tuple #[.int .i64 (allBadN n k), .int .i64 (allBadD n k), .bool (okC n k)]) ∧ ∃ m, w' = w.drewN m := by
  unfold allBadN allBadD
  cases h : okC n k
  · simp only [Bool.false_eq_true, if_false]
    go_enter Try.func54, Try.ntmps54
    go_wp2_with (first | (go_at_call 62; refine (isChecked_any _ _ _).mono ?_; rintro e w' ⟨rfl, m, rfl⟩))
    go_ret3
    exact ⟨rfl, _, rfl⟩
  · obtain ⟨h1, h2, h3, h4⟩ := okC_range h
    simp only [if_true]
    go_enter Try.func54, Try.ntmps54
    go_wp2_with (first | (go_at_call 62; refine (isChecked_any _ _ _).mono ?_; rintro e w' ⟨rfl, m, rfl⟩) | (go_at_call 111; refine (sets_any _ _ _ (by omega) (by omega)).mono ?_; rintro e w' ⟨rfl, m, rfl⟩))
    go_ret3
    exact ⟨rfl, _, rfl⟩
set_option maxHeartbeats 400000 in
theorem spec_AllBadChance_any (n k : Int) (w : World) :
    Calls Try.prog 55 #[.int .i64 n, .int .i64 k] w fun e w' => e = .returned (.tuple #[.int .i64 (allBadN n k), .int .i64 (allBadD n k), .bool (okC n k)]) ∧ ∃ m, w' = w.drewN m := by
  unfold allBadN allBadD
  cases h : okC n k
  · simp only [Bool.false_eq_true, if_false]
    go_enter Try.func55, Try.ntmps55
    go_wp2_with (first | (go_at_call 65; refine (ccCopies_any _ _ _).mono ?_; rintro e w' ⟨rfl, m, rfl⟩))
    go_ret3
    exact ⟨rfl, _, rfl⟩
  · obtain ⟨h1, h2, h3, h4⟩ := okC_range h
    simp only [if_true]
    go_enter Try.func55, Try.ntmps55
    go_wp2_with (first | (go_at_call 65; refine (ccCopies_any _ _ _).mono ?_; rintro e w' ⟨rfl, m, rfl⟩) | (go_at_call 112; refine (ccSets_any _ _ _ (by omega) (by omega)).mono ?_; rintro e w' ⟨rfl, m, rfl⟩))
    go_ret3
    exact ⟨rfl, _, rfl⟩
set_option maxHeartbeats 400000 in
theorem MissChance_any (n b k : Int) (w : World) :
    Calls Try.prog 9 #[.int .i64 n, .int .i64 b, .int .i64 k] w fun e w' => e = .returned (.tuple #[.int .i64 (missVN n b k), .int .i64 (missVD n b k), .bool (missVB n b k)]) ∧ ∃ m, w' = w.drewN m := by
  unfold missVN missVD missVB
  cases h : okC n k
  · simp only [Bool.false_eq_true, false_and, if_false, Bool.false_and]
    go_enter Try.func9, Try.ntmps9
    go_wp2_with (first | (go_at_call 62; refine (isChecked_any _ _ _).mono ?_; rintro e w' ⟨rfl, m, rfl⟩))
    go_ret3
    exact ⟨rfl, _, rfl⟩
  · obtain ⟨h1, h2, h3, h4⟩ := okC_range h
    by_cases h5 : 0 ≤ b
    · by_cases h6 : b ≤ n
      · simp only [h5, h6, if_true, and_true, Bool.true_and, decide_true]
        go_enter Try.func9, Try.ntmps9
        go_wp2_with (first | (go_at_call 62; refine (isChecked_any _ _ _).mono ?_; rintro e w' ⟨rfl, m, rfl⟩) | (go_at_call 64; refine (missChance_any _ _ _ _ (by omega) (by omega) (by omega) (by omega) (by omega) (by omega)).mono ?_; rintro e w' ⟨rfl, m, rfl⟩) | go_in)
        go_ret3
        exact ⟨rfl, _, rfl⟩
      · simp only [h5, h6, and_false, if_false, Bool.true_and, decide_false]
        have d6 : decide (b ≤ n) = false := by simp; omega
        go_enter Try.func9, Try.ntmps9
        go_wp2_with (first | (go_at_call 62; refine (isChecked_any _ _ _).mono ?_; rintro e w' ⟨rfl, m, rfl⟩) | go_in)
        go_ret3
        exact ⟨rfl, _, rfl⟩
    · simp only [h5, false_and, and_false, if_false, Bool.true_and, decide_false]
      go_enter Try.func9, Try.ntmps9
      go_wp2_with (first | (go_at_call 62; refine (isChecked_any _ _ _).mono ?_; rintro e w' ⟨rfl, m, rfl⟩) | go_in)
      go_ret3
      exact ⟨rfl, _, rfl⟩
set_option maxHeartbeats 400000 in
theorem spec_MissChance_any (n b k : Int) (w : World) :
    Calls Try.prog 10 #[.int .i64 n, .int .i64 b, .int .i64 k] w fun e w' => e = .returned (.tuple #[.int .i64 (missVN n b k), .int .i64 (missVD n b k), .bool (missVB n b k)]) ∧ ∃ m, w' = w.drewN m := by
  unfold missVN missVD missVB
  cases h : okC n k
  · simp only [Bool.false_eq_true, false_and, if_false, Bool.false_and]
    go_enter Try.func10, Try.ntmps10
    go_wp2_with (first | (go_at_call 65; refine (ccCopies_any _ _ _).mono ?_; rintro e w' ⟨rfl, m, rfl⟩))
    go_ret3
    exact ⟨rfl, _, rfl⟩
  · obtain ⟨h1, h2, h3, h4⟩ := okC_range h
    by_cases h5 : 0 ≤ b
    · by_cases h6 : b ≤ n
      · simp only [h5, h6, if_true, and_true, Bool.true_and, decide_true]
        go_enter Try.func10, Try.ntmps10
        go_wp2_with (first | (go_at_call 65; refine (ccCopies_any _ _ _).mono ?_; rintro e w' ⟨rfl, m, rfl⟩) | (go_at_call 67; refine (ccMiss_any _ _ _ _ (by omega) (by omega) (by omega) (by omega) (by omega) (by omega)).mono ?_; rintro e w' ⟨rfl, m, rfl⟩) | go_in)
        go_ret3
        exact ⟨rfl, _, rfl⟩
      · simp only [h5, h6, and_false, if_false, Bool.true_and, decide_false]
        have d6 : decide (b ≤ n) = false := by simp; omega
        go_enter Try.func10, Try.ntmps10
        go_wp2_with (first | (go_at_call 65; refine (ccCopies_any _ _ _).mono ?_; rintro e w' ⟨rfl, m, rfl⟩) | go_in)
        go_ret3
        exact ⟨rfl, _, rfl⟩
    · simp only [h5, false_and, and_false, if_false, Bool.true_and, decide_false]
      go_enter Try.func10, Try.ntmps10
      go_wp2_with (first | (go_at_call 65; refine (ccCopies_any _ _ _).mono ?_; rintro e w' ⟨rfl, m, rfl⟩) | go_in)
      go_ret3
      exact ⟨rfl, _, rfl⟩
set_option maxHeartbeats 400000 in
theorem MajorityChance_any (n b k : Int) (w : World) :
    Calls Try.prog 15 #[.int .i64 n, .int .i64 b, .int .i64 k] w fun e w' => e = .returned (.tuple #[.int .i64 (majVN n b k), .int .i64 (majVD n b k), .bool (missVB n b k)]) ∧ ∃ m, w' = w.drewN m := by
  unfold majVN majVD missVB
  cases h : okC n k
  · simp only [Bool.false_eq_true, false_and, if_false, Bool.false_and]
    go_enter Try.func15, Try.ntmps15
    go_wp2_with (first | (go_at_call 62; refine (isChecked_any _ _ _).mono ?_; rintro e w' ⟨rfl, m, rfl⟩))
    go_ret3
    exact ⟨rfl, _, rfl⟩
  · obtain ⟨h1, h2, h3, h4⟩ := okC_range h
    by_cases h5 : 0 ≤ b
    · by_cases h6 : b ≤ n
      · simp only [h5, h6, if_true, and_true, Bool.true_and, decide_true]
        go_enter Try.func15, Try.ntmps15
        go_wp2_with (first | (go_at_call 62; refine (isChecked_any _ _ _).mono ?_; rintro e w' ⟨rfl, m, rfl⟩) | (go_at_call 71; refine (majorityChance_any _ _ _ _ (by omega) (by omega) (by omega) (by omega) (by omega) (by omega)).mono ?_; rintro e w' ⟨rfl, m, rfl⟩) | go_in)
        go_ret3
        exact ⟨rfl, _, rfl⟩
      · simp only [h5, h6, and_false, if_false, Bool.true_and, decide_false]
        have d6 : decide (b ≤ n) = false := by simp; omega
        go_enter Try.func15, Try.ntmps15
        go_wp2_with (first | (go_at_call 62; refine (isChecked_any _ _ _).mono ?_; rintro e w' ⟨rfl, m, rfl⟩) | go_in)
        go_ret3
        exact ⟨rfl, _, rfl⟩
    · simp only [h5, false_and, and_false, if_false, Bool.true_and, decide_false]
      go_enter Try.func15, Try.ntmps15
      go_wp2_with (first | (go_at_call 62; refine (isChecked_any _ _ _).mono ?_; rintro e w' ⟨rfl, m, rfl⟩) | go_in)
      go_ret3
      exact ⟨rfl, _, rfl⟩
set_option maxHeartbeats 400000 in
theorem spec_MajorityChance_any (n b k : Int) (w : World) :
    Calls Try.prog 16 #[.int .i64 n, .int .i64 b, .int .i64 k] w fun e w' => e = .returned (.tuple #[.int .i64 (majVN n b k), .int .i64 (majVD n b k), .bool (missVB n b k)]) ∧ ∃ m, w' = w.drewN m := by
  unfold majVN majVD missVB
  cases h : okC n k
  · simp only [Bool.false_eq_true, false_and, if_false, Bool.false_and]
    go_enter Try.func16, Try.ntmps16
    go_wp2_with (first | (go_at_call 65; refine (ccCopies_any _ _ _).mono ?_; rintro e w' ⟨rfl, m, rfl⟩))
    go_ret3
    exact ⟨rfl, _, rfl⟩
  · obtain ⟨h1, h2, h3, h4⟩ := okC_range h
    by_cases h5 : 0 ≤ b
    · by_cases h6 : b ≤ n
      · simp only [h5, h6, if_true, and_true, Bool.true_and, decide_true]
        go_enter Try.func16, Try.ntmps16
        go_wp2_with (first | (go_at_call 65; refine (ccCopies_any _ _ _).mono ?_; rintro e w' ⟨rfl, m, rfl⟩) | (go_at_call 72; refine (ccMajority_any _ _ _ _ (by omega) (by omega) (by omega) (by omega) (by omega) (by omega)).mono ?_; rintro e w' ⟨rfl, m, rfl⟩) | go_in)
        go_ret3
        exact ⟨rfl, _, rfl⟩
      · simp only [h5, h6, and_false, if_false, Bool.true_and, decide_false]
        have d6 : decide (b ≤ n) = false := by simp; omega
        go_enter Try.func16, Try.ntmps16
        go_wp2_with (first | (go_at_call 65; refine (ccCopies_any _ _ _).mono ?_; rintro e w' ⟨rfl, m, rfl⟩) | go_in)
        go_ret3
        exact ⟨rfl, _, rfl⟩
    · simp only [h5, false_and, and_false, if_false, Bool.true_and, decide_false]
      go_enter Try.func16, Try.ntmps16
      go_wp2_with (first | (go_at_call 65; refine (ccCopies_any _ _ _).mono ?_; rintro e w' ⟨rfl, m, rfl⟩) | go_in)
      go_ret3
      exact ⟨rfl, _, rfl⟩
end Go.Proofs.Ytjgbhokilagmoaa
