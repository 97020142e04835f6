/- Cut and choose: the exported functions of chances, and the laws over them. -/
import Derived.Test.YtonfffjhdgnaoaaChoose1
import Derived.Test.YtonfffjhdgnaoaaWidth
namespace Go.Proofs.Ytonfffjhdgnaoaa
open Go.RowKit


def setsOfV (n k : Int) : Int := if 0 ≤ n ∧ n ≤ 40 ∧ -100 ≤ k ∧ k ≤ 100 then setsI n k else 0
def setsOfB (n k : Int) : Bool := decide (0 ≤ n ∧ n ≤ 40 ∧ -100 ≤ k ∧ k ≤ 100)
set_option maxHeartbeats 400000 in
theorem SetsOf_any (n k : Int) (w : World) :
    Calls Try.prog 17 #[.int .i64 n, .int .i64 k] w fun e w' => e = .returned (.tuple #[.int .i64 (setsOfV n k), .bool (setsOfB n k)]) ∧ ∃ m, w' = w.drewN m := by
  by_cases h1 : 0 ≤ n <;> by_cases h2 : n ≤ 40 <;> by_cases h3 : -100 ≤ k <;> by_cases h4 : k ≤ 100 <;> first | (exfalso; omega) | (go_enter Try.func17, Try.ntmps17; go_wp2_with (first | (go_at_call 46; refine (sets_any _ _ _ (by omega) (by omega)).mono ?_; rintro e w' ⟨rfl, m, rfl⟩) | go_in); go_ret2; exact ⟨ret_2 (v_int (by unfold setsOfV; first | rw [if_pos (by omega)] | rw [if_neg (by omega)])) (v_bool (by unfold setsOfB; simp; omega)), by first | exact ⟨_, rfl⟩ | exact ⟨0, rfl⟩⟩)
theorem spec_SetsOf_any (n k : Int) (w : World) :
    Calls Try.prog 16 #[.int .i64 n, .int .i64 k] w fun e w' => e = .returned (.tuple #[.int .i64 (setsOfV n k), .bool (setsOfB n k)]) ∧ ∃ m, w' = w.drewN m := by
  by_cases h1 : 0 ≤ n <;> by_cases h2 : n ≤ 40 <;> by_cases h3 : -100 ≤ k <;> by_cases h4 : k ≤ 100 <;> first | (exfalso; omega) | (go_enter Try.func16, Try.ntmps16; go_wp2_with (first | (go_at_call 45; refine (ccSets_any _ _ _ (by omega) (by omega)).mono ?_; rintro e w' ⟨rfl, m, rfl⟩) | go_in); go_ret2; exact ⟨ret_2 (v_int (by unfold setsOfV; first | rw [if_pos (by omega)] | rw [if_neg (by omega)])) (v_bool (by unfold setsOfB; simp; omega)), by first | exact ⟨_, rfl⟩ | exact ⟨0, rfl⟩⟩)
theorem FnExactSetsOf_walk (a0 a1 : Int) (w : World) (_w0 : -9223372036854775808 ≤ a0 ∧ a0 ≤ 9223372036854775807) (_w1 : -9223372036854775808 ≤ a1 ∧ a1 ≤ 9223372036854775807) :
    Calls Try.prog 4 #[.int .i64 a0, .int .i64 a1] w fun e w' => e = .returned (.bool true) ∧ Below w.heap.size w w' := by
  go_enter Try.func4, Try.ntmps4
  go_wp2_with (first | (go_at_call 16; refine (spec_SetsOf_any _ _ _).mono ?_; rintro e w' ⟨rfl, m, rfl⟩) | (go_at_call 17; refine (SetsOf_any _ _ _).mono ?_; rintro e w' ⟨rfl, m, rfl⟩))
  go_ret
  exact ⟨rfl, below_of_drewN _⟩
def allBadN (n k : Int) : Int := if okC n k then 1 else 0
def allBadD (n k : Int) : Int := if okC n k then setsI n k else 0
def missVN (n b k : Int) : Int := if okC n k ∧ 0 ≤ b ∧ b ≤ n then missN n b k else 0
def missVD (n b k : Int) : Int := if okC n k ∧ 0 ≤ b ∧ b ≤ n then missD n b k else 0
def majVN (n b k : Int) : Int := if okC n k ∧ 0 ≤ b ∧ b ≤ n then majN n b k else 0
def majVD (n b k : Int) : Int := if okC n k ∧ 0 ≤ b ∧ b ≤ n then majD n b k else 0
def missVB (n b k : Int) : Bool := okC n k && decide (0 ≤ b ∧ b ≤ n)
set_option maxHeartbeats 400000 in
theorem AllBadChance_any (n k : Int) (w : World) :
    Calls Try.prog 19 #[.int .i64 n, .int .i64 k] w fun e w' => e = .returned (.tuple #[.int .i64 (allBadN n k), .int .i64 (allBadD n k), .bool (okC n k)]) ∧ ∃ m, w' = w.drewN m := by
  unfold allBadN allBadD
  cases h : okC n k
  · simp only [Bool.false_eq_true, if_false]
    go_enter Try.func19, Try.ntmps19
    go_wp2_with (first | (go_at_call 48; refine (isChecked_any _ _ _).mono ?_; rintro e w' ⟨rfl, m, rfl⟩))
    go_ret3
    exact ⟨rfl, _, rfl⟩
  · obtain ⟨h1, h2, h3, h4⟩ := okC_range h
    simp only [if_true]
    go_enter Try.func19, Try.ntmps19
    go_wp2_with (first | (go_at_call 48; refine (isChecked_any _ _ _).mono ?_; rintro e w' ⟨rfl, m, rfl⟩) | (go_at_call 46; refine (sets_any _ _ _ (by omega) (by omega)).mono ?_; rintro e w' ⟨rfl, m, rfl⟩))
    go_ret3
    exact ⟨rfl, _, rfl⟩
set_option maxHeartbeats 400000 in
theorem spec_AllBadChance_any (n k : Int) (w : World) :
    Calls Try.prog 18 #[.int .i64 n, .int .i64 k] w fun e w' => e = .returned (.tuple #[.int .i64 (allBadN n k), .int .i64 (allBadD n k), .bool (okC n k)]) ∧ ∃ m, w' = w.drewN m := by
  unfold allBadN allBadD
  cases h : okC n k
  · simp only [Bool.false_eq_true, if_false]
    go_enter Try.func18, Try.ntmps18
    go_wp2_with (first | (go_at_call 47; refine (ccCopies_any _ _ _).mono ?_; rintro e w' ⟨rfl, m, rfl⟩))
    go_ret3
    exact ⟨rfl, _, rfl⟩
  · obtain ⟨h1, h2, h3, h4⟩ := okC_range h
    simp only [if_true]
    go_enter Try.func18, Try.ntmps18
    go_wp2_with (first | (go_at_call 47; refine (ccCopies_any _ _ _).mono ?_; rintro e w' ⟨rfl, m, rfl⟩) | (go_at_call 45; refine (ccSets_any _ _ _ (by omega) (by omega)).mono ?_; rintro e w' ⟨rfl, m, rfl⟩))
    go_ret3
    exact ⟨rfl, _, rfl⟩
theorem FnExactAllBadChance_walk (a0 a1 : Int) (w : World) (_w0 : -9223372036854775808 ≤ a0 ∧ a0 ≤ 9223372036854775807) (_w1 : -9223372036854775808 ≤ a1 ∧ a1 ≤ 9223372036854775807) :
    Calls Try.prog 5 #[.int .i64 a0, .int .i64 a1] w fun e w' => e = .returned (.bool true) ∧ Below w.heap.size w w' := by
  go_enter Try.func5, Try.ntmps5
  go_wp2_with (first | (go_at_call 18; refine (spec_AllBadChance_any _ _ _).mono ?_; rintro e w' ⟨rfl, m, rfl⟩) | (go_at_call 19; refine (AllBadChance_any _ _ _).mono ?_; rintro e w' ⟨rfl, m, rfl⟩))
  go_ret
  exact ⟨rfl, below_of_drewN _⟩
set_option maxHeartbeats 400000 in
theorem MissChance_any (n b k : Int) (w : World) :
    Calls Try.prog 27 #[.int .i64 n, .int .i64 b, .int .i64 k] w fun e w' => e = .returned (.tuple #[.int .i64 (missVN n b k), .int .i64 (missVD n b k), .bool (missVB n b k)]) ∧ ∃ m, w' = w.drewN m := by
  unfold missVN missVD missVB
  cases h : okC n k
  · simp only [Bool.false_eq_true, false_and, if_false, Bool.false_and]
    go_enter Try.func27, Try.ntmps27
    go_wp2_with (first | (go_at_call 48; refine (isChecked_any _ _ _).mono ?_; rintro e w' ⟨rfl, m, rfl⟩))
    go_ret3
    exact ⟨rfl, _, rfl⟩
  · obtain ⟨h1, h2, h3, h4⟩ := okC_range h
    by_cases h5 : 0 ≤ b
    · by_cases h6 : b ≤ n
      · simp only [h5, h6, if_true, and_true, Bool.true_and, decide_true]
        go_enter Try.func27, Try.ntmps27
        go_wp2_with (first | (go_at_call 48; refine (isChecked_any _ _ _).mono ?_; rintro e w' ⟨rfl, m, rfl⟩) | (go_at_call 55; refine (missChance_any _ _ _ _ (by omega) (by omega) (by omega) (by omega) (by omega) (by omega)).mono ?_; rintro e w' ⟨rfl, m, rfl⟩) | go_in)
        go_ret3
        exact ⟨rfl, _, rfl⟩
      · simp only [h5, h6, and_false, if_false, Bool.true_and, decide_false]
        have d6 : decide (b ≤ n) = false := by simp; omega
        go_enter Try.func27, Try.ntmps27
        go_wp2_with (first | (go_at_call 48; refine (isChecked_any _ _ _).mono ?_; rintro e w' ⟨rfl, m, rfl⟩) | go_in)
        go_ret3
        exact ⟨rfl, _, rfl⟩
    · simp only [h5, false_and, and_false, if_false, Bool.true_and, decide_false]
      go_enter Try.func27, Try.ntmps27
      go_wp2_with (first | (go_at_call 48; refine (isChecked_any _ _ _).mono ?_; rintro e w' ⟨rfl, m, rfl⟩) | go_in)
      go_ret3
      exact ⟨rfl, _, rfl⟩
set_option maxHeartbeats 400000 in
theorem spec_MissChance_any (n b k : Int) (w : World) :
    Calls Try.prog 26 #[.int .i64 n, .int .i64 b, .int .i64 k] w fun e w' => e = .returned (.tuple #[.int .i64 (missVN n b k), .int .i64 (missVD n b k), .bool (missVB n b k)]) ∧ ∃ m, w' = w.drewN m := by
  unfold missVN missVD missVB
  cases h : okC n k
  · simp only [Bool.false_eq_true, false_and, if_false, Bool.false_and]
    go_enter Try.func26, Try.ntmps26
    go_wp2_with (first | (go_at_call 47; refine (ccCopies_any _ _ _).mono ?_; rintro e w' ⟨rfl, m, rfl⟩))
    go_ret3
    exact ⟨rfl, _, rfl⟩
  · obtain ⟨h1, h2, h3, h4⟩ := okC_range h
    by_cases h5 : 0 ≤ b
    · by_cases h6 : b ≤ n
      · simp only [h5, h6, if_true, and_true, Bool.true_and, decide_true]
        go_enter Try.func26, Try.ntmps26
        go_wp2_with (first | (go_at_call 47; refine (ccCopies_any _ _ _).mono ?_; rintro e w' ⟨rfl, m, rfl⟩) | (go_at_call 54; refine (ccMiss_any _ _ _ _ (by omega) (by omega) (by omega) (by omega) (by omega) (by omega)).mono ?_; rintro e w' ⟨rfl, m, rfl⟩) | go_in)
        go_ret3
        exact ⟨rfl, _, rfl⟩
      · simp only [h5, h6, and_false, if_false, Bool.true_and, decide_false]
        have d6 : decide (b ≤ n) = false := by simp; omega
        go_enter Try.func26, Try.ntmps26
        go_wp2_with (first | (go_at_call 47; refine (ccCopies_any _ _ _).mono ?_; rintro e w' ⟨rfl, m, rfl⟩) | go_in)
        go_ret3
        exact ⟨rfl, _, rfl⟩
    · simp only [h5, false_and, and_false, if_false, Bool.true_and, decide_false]
      go_enter Try.func26, Try.ntmps26
      go_wp2_with (first | (go_at_call 47; refine (ccCopies_any _ _ _).mono ?_; rintro e w' ⟨rfl, m, rfl⟩) | go_in)
      go_ret3
      exact ⟨rfl, _, rfl⟩
theorem FnExactMissChance_walk (a0 a1 a2 : Int) (w : World) (_w0 : -9223372036854775808 ≤ a0 ∧ a0 ≤ 9223372036854775807) (_w1 : -9223372036854775808 ≤ a1 ∧ a1 ≤ 9223372036854775807) (_w2 : -9223372036854775808 ≤ a2 ∧ a2 ≤ 9223372036854775807) :
    Calls Try.prog 8 #[.int .i64 a0, .int .i64 a1, .int .i64 a2] w fun e w' => e = .returned (.bool true) ∧ Below w.heap.size w w' := by
  go_enter Try.func8, Try.ntmps8
  go_wp2_with (first | (go_at_call 26; refine (spec_MissChance_any _ _ _ _).mono ?_; rintro e w' ⟨rfl, m, rfl⟩) | (go_at_call 27; refine (MissChance_any _ _ _ _).mono ?_; rintro e w' ⟨rfl, m, rfl⟩))
  go_ret
  exact ⟨rfl, below_of_drewN _⟩
set_option maxHeartbeats 400000 in
theorem MajorityChance_any (n b k : Int) (w : World) :
    Calls Try.prog 35 #[.int .i64 n, .int .i64 b, .int .i64 k] w fun e w' => e = .returned (.tuple #[.int .i64 (majVN n b k), .int .i64 (majVD n b k), .bool (missVB n b k)]) ∧ ∃ m, w' = w.drewN m := by
  unfold majVN majVD missVB
  cases h : okC n k
  · simp only [Bool.false_eq_true, false_and, if_false, Bool.false_and]
    go_enter Try.func35, Try.ntmps35
    go_wp2_with (first | (go_at_call 48; refine (isChecked_any _ _ _).mono ?_; rintro e w' ⟨rfl, m, rfl⟩))
    go_ret3
    exact ⟨rfl, _, rfl⟩
  · obtain ⟨h1, h2, h3, h4⟩ := okC_range h
    by_cases h5 : 0 ≤ b
    · by_cases h6 : b ≤ n
      · simp only [h5, h6, if_true, and_true, Bool.true_and, decide_true]
        go_enter Try.func35, Try.ntmps35
        go_wp2_with (first | (go_at_call 48; refine (isChecked_any _ _ _).mono ?_; rintro e w' ⟨rfl, m, rfl⟩) | (go_at_call 61; refine (majorityChance_any _ _ _ _ (by omega) (by omega) (by omega) (by omega) (by omega) (by omega)).mono ?_; rintro e w' ⟨rfl, m, rfl⟩) | go_in)
        go_ret3
        exact ⟨rfl, _, rfl⟩
      · simp only [h5, h6, and_false, if_false, Bool.true_and, decide_false]
        have d6 : decide (b ≤ n) = false := by simp; omega
        go_enter Try.func35, Try.ntmps35
        go_wp2_with (first | (go_at_call 48; refine (isChecked_any _ _ _).mono ?_; rintro e w' ⟨rfl, m, rfl⟩) | go_in)
        go_ret3
        exact ⟨rfl, _, rfl⟩
    · simp only [h5, false_and, and_false, if_false, Bool.true_and, decide_false]
      go_enter Try.func35, Try.ntmps35
      go_wp2_with (first | (go_at_call 48; refine (isChecked_any _ _ _).mono ?_; rintro e w' ⟨rfl, m, rfl⟩) | go_in)
      go_ret3
      exact ⟨rfl, _, rfl⟩
set_option maxHeartbeats 400000 in
theorem spec_MajorityChance_any (n b k : Int) (w : World) :
    Calls Try.prog 34 #[.int .i64 n, .int .i64 b, .int .i64 k] w fun e w' => e = .returned (.tuple #[.int .i64 (majVN n b k), .int .i64 (majVD n b k), .bool (missVB n b k)]) ∧ ∃ m, w' = w.drewN m := by
  unfold majVN majVD missVB
  cases h : okC n k
  · simp only [Bool.false_eq_true, false_and, if_false, Bool.false_and]
    go_enter Try.func34, Try.ntmps34
    go_wp2_with (first | (go_at_call 47; refine (ccCopies_any _ _ _).mono ?_; rintro e w' ⟨rfl, m, rfl⟩))
    go_ret3
    exact ⟨rfl, _, rfl⟩
  · obtain ⟨h1, h2, h3, h4⟩ := okC_range h
    by_cases h5 : 0 ≤ b
    · by_cases h6 : b ≤ n
      · simp only [h5, h6, if_true, and_true, Bool.true_and, decide_true]
        go_enter Try.func34, Try.ntmps34
        go_wp2_with (first | (go_at_call 47; refine (ccCopies_any _ _ _).mono ?_; rintro e w' ⟨rfl, m, rfl⟩) | (go_at_call 60; refine (ccMajority_any _ _ _ _ (by omega) (by omega) (by omega) (by omega) (by omega) (by omega)).mono ?_; rintro e w' ⟨rfl, m, rfl⟩) | go_in)
        go_ret3
        exact ⟨rfl, _, rfl⟩
      · simp only [h5, h6, and_false, if_false, Bool.true_and, decide_false]
        have d6 : decide (b ≤ n) = false := by simp; omega
        go_enter Try.func34, Try.ntmps34
        go_wp2_with (first | (go_at_call 47; refine (ccCopies_any _ _ _).mono ?_; rintro e w' ⟨rfl, m, rfl⟩) | go_in)
        go_ret3
        exact ⟨rfl, _, rfl⟩
    · simp only [h5, false_and, and_false, if_false, Bool.true_and, decide_false]
      go_enter Try.func34, Try.ntmps34
      go_wp2_with (first | (go_at_call 47; refine (ccCopies_any _ _ _).mono ?_; rintro e w' ⟨rfl, m, rfl⟩) | go_in)
      go_ret3
      exact ⟨rfl, _, rfl⟩
theorem FnExactMajorityChance_walk (a0 a1 a2 : Int) (w : World) (_w0 : -9223372036854775808 ≤ a0 ∧ a0 ≤ 9223372036854775807) (_w1 : -9223372036854775808 ≤ a1 ∧ a1 ≤ 9223372036854775807) (_w2 : -9223372036854775808 ≤ a2 ∧ a2 ≤ 9223372036854775807) :
    Calls Try.prog 11 #[.int .i64 a0, .int .i64 a1, .int .i64 a2] w fun e w' => e = .returned (.bool true) ∧ Below w.heap.size w w' := by
  go_enter Try.func11, Try.ntmps11
  go_wp2_with (first | (go_at_call 34; refine (spec_MajorityChance_any _ _ _ _).mono ?_; rintro e w' ⟨rfl, m, rfl⟩) | (go_at_call 35; refine (MajorityChance_any _ _ _ _).mono ?_; rintro e w' ⟨rfl, m, rfl⟩))
  go_ret
  exact ⟨rfl, below_of_drewN _⟩
end Go.Proofs.Ytonfffjhdgnaoaa
