/- The worst number of bad copies, the best number of checks, the least number of copies; the laws over them. -/
import Derived.Test.YtnhphmhckbjnnaaChoose1
import Derived.Test.YtnhphmhckbjnnaaCompare
import Derived.Test.YtnhphmhckbjnnaaOwn
namespace Go.Proofs.Ytnhphmhckbjnnaa
open Go.RowKit

theorem mb_le : ∀ n, n < 41 → ∀ i, i < 41 → mb n i ≤ 1000000000000 := by decide +kernel
theorem setsI_le (n k : Int) (h1 : 0 ≤ n) (h2 : n ≤ 40) : 0 ≤ setsI n k ∧ setsI n k ≤ 1000000000000 := by
  unfold setsI
  split
  · omega
  · have := mb_le n.toNat (by omega) k.toNat (by omega); omega
theorem missN_range (n b k : Int) (h1 : 1 ≤ n) (h2 : n ≤ 40) (h3 : 0 ≤ b) (h4 : b ≤ n) (h5 : 0 ≤ k) (h6 : k ≤ n - 1) : 0 ≤ missN n b k ∧ missN n b k ≤ 1000000000000 := by
  have r1 := setsI_le (n - b) k (by omega) (by omega)
  have r3 := setsI_pos n k (by omega) h5 (by omega)
  unfold missN
  exact ⟨Int.ediv_nonneg r1.1 (by omega), Int.le_trans (Int.ediv_le_self _ r1.1) r1.2⟩
theorem missD_range (n b k : Int) (h1 : 1 ≤ n) (h2 : n ≤ 40) (_h3 : 0 ≤ b) (_h4 : b ≤ n) (h5 : 0 ≤ k) (h6 : k ≤ n - 1) : 1 ≤ missD n b k ∧ missD n b k ≤ 1000000000000 := by
  have r1 := setsI_le n k (by omega) (by omega)
  have r3 := setsI_pos n k (by omega) h5 (by omega)
  unfold missD
  refine ⟨?_, Int.le_trans (Int.ediv_le_self _ r1.1) r1.2⟩
  have hg : (0 : Int) < (Int.gcd (setsI (n - b) k) (setsI n k) : Int) := by
    have := Int.gcd_pos_of_ne_zero_right (setsI (n - b) k) (by omega : setsI n k ≠ 0)
    omega
  have hd : (Int.gcd (setsI (n - b) k) (setsI n k) : Int) ∣ setsI n k := Int.gcd_dvd_right ..
  have hle := Int.le_of_dvd (by omega) hd
  exact (Int.le_ediv_iff_mul_le hg).2 (by omega)
theorem majN_range (n b k : Int) (h1 : 1 ≤ n) (h2 : n ≤ 40) (h3 : 0 ≤ b) (h4 : b ≤ n) (h5 : 0 ≤ k) (h6 : k ≤ n - 1) : 0 ≤ majN n b k ∧ majN n b k ≤ 1000000000000 := by
  unfold majN; split
  · omega
  · exact missN_range n b k h1 h2 h3 h4 h5 h6
theorem majD_range (n b k : Int) (h1 : 1 ≤ n) (h2 : n ≤ 40) (h3 : 0 ≤ b) (h4 : b ≤ n) (h5 : 0 ≤ k) (h6 : k ≤ n - 1) : 1 ≤ majD n b k ∧ majD n b k ≤ 1000000000000 := by
  unfold majD; split
  · omega
  · exact missD_range n b k h1 h2 h3 h4 h5 h6

/-- The worst of the numbers of bad copies below b: the number, and its chance. -/
def wst (n k : Int) : Nat → Nat × Int × Int
  | 0 => (0, 0, 1)
  | b + 1 => if b = 0 ∨ 0 < sgnI (majN n b k * (wst n k b).2.2 - (wst n k b).2.1 * majD n b k) then (b, majN n b k, majD n b k) else wst n k b
theorem wst_hit (n k : Int) (b : Nat) (h : b = 0 ∨ 0 < sgnI (majN n b k * (wst n k b).2.2 - (wst n k b).2.1 * majD n b k)) : wst n k (b + 1) = (b, majN n b k, majD n b k) := by
  rw [wst, if_pos h]
theorem wst_miss (n k : Int) (b : Nat) (h : ¬ (b = 0 ∨ 0 < sgnI (majN n b k * (wst n k b).2.2 - (wst n k b).2.1 * majD n b k))) : wst n k (b + 1) = wst n k b := by
  rw [wst, if_neg h]
theorem wst_range (n k : Int) (h1 : 1 ≤ n) (h2 : n ≤ 40) (h5 : 0 ≤ k) (h6 : k ≤ n - 1) : ∀ b : Nat, (b : Int) ≤ n + 1 → (wst n k b).1 ≤ b ∧ 0 ≤ (wst n k b).2.1 ∧ (wst n k b).2.1 ≤ 1000000000000 ∧ 1 ≤ (wst n k b).2.2 ∧ (wst n k b).2.2 ≤ 1000000000000 := by
  intro b
  induction b with
  | zero => intro _; simp [wst]
  | succ b ih =>
    intro hb
    have i := ih (by omega)
    rw [wst]
    split
    · have a := majN_range n b k h1 h2 (by omega) (by omega) h5 h6
      have c := majD_range n b k h1 h2 (by omega) (by omega) h5 h6
      exact ⟨Nat.le_succ _, a.1, a.2, c.1, c.2⟩
    · exact ⟨by omega, i.2⟩
def worstI (n k : Int) : Int := ((wst n k (n.toNat + 1)).1 : Nat)
def worstN (n k : Int) : Int := (wst n k (n.toNat + 1)).2.1
def worstD (n k : Int) : Int := (wst n k (n.toNat + 1)).2.2
theorem worst_range (n k : Int) (h1 : 1 ≤ n) (h2 : n ≤ 40) (h5 : 0 ≤ k) (h6 : k ≤ n - 1) : 0 ≤ worstN n k ∧ worstN n k ≤ 1000000000000 ∧ 1 ≤ worstD n k ∧ worstD n k ≤ 1000000000000 :=
  (wst_range n k h1 h2 h5 h6 (n.toNat + 1) (by omega)).2

set_option maxHeartbeats 2000000 in
theorem worstMajority_any (n k : Int) (w : World) (h1 : 1 ≤ n) (h2 : n ≤ 40) (h5 : 0 ≤ k) (h6 : k ≤ n - 1) :
    Calls Try.prog 38 #[.int .i64 n, .int .i64 k] w fun e w' => e = .returned (.tuple #[.int .i64 (worstI n k), .int .i64 (worstN n k), .int .i64 (worstD n k)]) ∧ Below w.heap.size w w' := by
  go_enter Try.func38, Try.ntmps38
  go_wp2
  go_loopw [7, 8, 9, 15] (fun u x y v wr => ∃ b : Nat, (b : Int) ≤ n + 1 ∧ v = .int .i64 b ∧ u = .int .i64 ((wst n k b).1 : Nat) ∧ x = .int .i64 (wst n k b).2.1 ∧ y = .int .i64 (wst n k b).2.2 ∧ Below w.heap.size w wr) (fun _ _ _ v _ => n.toNat + 1 - (intOf v).toNat)
  case atStart => exact ⟨0, by omega, rfl, rfl, rfl, rfl, Below.refl _ _⟩
  case round =>
    obtain ⟨b, hb, rfl, rfl, rfl, rfl, hbel⟩ := hrel
    by_cases hlt : (b : Int) ≤ n
    · have hlt' : (b : Int) < n + 1 := by omega
      have a := majN_range n b k h1 h2 (by omega) hlt h5 h6
      have c := majD_range n b k h1 h2 (by omega) hlt h5 h6
      have r := wst_range n k h1 h2 h5 h6 b hb
      have hh := wst_hit n k b
      have hm := wst_miss n k b
      obtain ⟨t, ht⟩ : ∃ t, t = wst n k b := ⟨_, rfl⟩
      rw [← ht] at hh hm r
      rw [← ht]
      clear ht
      obtain ⟨t1, t2, t3⟩ := t
      simp only at r hh hm
      obtain ⟨r0, r1, r2, r3, r4⟩ := r
      obtain ⟨a1, a2⟩ := a
      obtain ⟨c1, c2⟩ := c
      by_cases h0 : b = 0
      · have hb0 : ((b : Int) == 0) = true := by simp [h0]
        have HH := Lib.hid (hh (Or.inl h0))
        clear hh hm h0
        go_wp2_with fail
        refine (majorityChance_any _ _ _ _ h1 h2 (by omega) (by omega) h5 h6).mono ?_; rintro e w1 ⟨rfl, q1⟩
        have u1 := below_of_quiet q1
        clear q1
        have v1 := hbel.trans (u1.mono hbel.size)
        clear u1 hbel
        go_wp2
        go_roundw
        case rel => exact ⟨b + 1, by omega, by go_num, by rw [HH.out], by rw [HH.out], by rw [HH.out], v1⟩
        case measure => simp [intOf]; omega
      · have hb0 : ((b : Int) == 0) = false := by simp [h0]
        have sb := sgnI_bd (majN n b k * t3 - t2 * majD n b k)
        by_cases hs : 0 < sgnI (majN n b k * t3 - t2 * majD n b k)
        · have HH := Lib.hid (hh (Or.inr hs))
          clear hh hm
          go_wp2_with fail
          refine (majorityChance_any _ _ _ _ h1 h2 (by omega) (by omega) h5 h6).mono ?_; rintro e w1 ⟨rfl, q1⟩
          have u1 := below_of_quiet q1
          clear q1
          have v1 := hbel.trans (u1.mono hbel.size)
          clear u1 hbel
          go_wp2_with fail
          refine (compareChances_any _ _ _ _ _ (by omega) (by omega) (by omega) (by omega) (by omega) (by omega) (by omega) (by omega)).mono ?_; rintro e w2 ⟨rfl, u2⟩
          have v2 := v1.trans (u2.mono v1.size)
          clear u2 v1
          go_wp2
          go_roundw
          case rel => exact ⟨b + 1, by omega, by go_num, by rw [HH.out], by rw [HH.out], by rw [HH.out], v2⟩
          case measure => simp [intOf]; omega
        · have HH := Lib.hid (hm (by omega))
          clear hh hm
          go_wp2_with fail
          refine (majorityChance_any _ _ _ _ h1 h2 (by omega) (by omega) h5 h6).mono ?_; rintro e w1 ⟨rfl, q1⟩
          have u1 := below_of_quiet q1
          clear q1
          have v1 := hbel.trans (u1.mono hbel.size)
          clear u1 hbel
          go_wp2_with fail
          refine (compareChances_any _ _ _ _ _ (by omega) (by omega) (by omega) (by omega) (by omega) (by omega) (by omega) (by omega)).mono ?_; rintro e w2 ⟨rfl, u2⟩
          have v2 := v1.trans (u2.mono v1.size)
          clear u2 v1
          go_wp2
          go_roundw
          case rel => exact ⟨b + 1, by omega, by go_num, by rw [HH.out], by rw [HH.out], by rw [HH.out], v2⟩
          case measure => simp [intOf]; omega
    · have hbn : b = n.toNat + 1 := by omega
      have HB := Lib.hid hbn
      have hge : ¬ (b : Int) < n + 1 := by omega
      clear hbn
      go_wp2
      go_ret3
      exact ⟨ret_3 (v_int (by unfold worstI; rw [← HB.out])) (v_int (by unfold worstN; rw [← HB.out])) (v_int (by unfold worstD; rw [← HB.out])), hbel⟩
set_option maxHeartbeats 2000000 in
theorem ccWorst_any (n k : Int) (w : World) (h1 : 1 ≤ n) (h2 : n ≤ 40) (h5 : 0 ≤ k) (h6 : k ≤ n - 1) :
    Calls Try.prog 39 #[.int .i64 n, .int .i64 k] w fun e w' => e = .returned (.tuple #[.int .i64 (worstI n k), .int .i64 (worstN n k), .int .i64 (worstD n k)]) ∧ Below w.heap.size w w' := by
  go_enter Try.func39, Try.ntmps39
  go_wp2
  go_loopw [7, 8, 9, 10] (fun u x y v wr => ∃ b : Nat, (b : Int) ≤ n + 1 ∧ v = .int .i64 b ∧ u = .int .i64 ((wst n k b).1 : Nat) ∧ x = .int .i64 (wst n k b).2.1 ∧ y = .int .i64 (wst n k b).2.2 ∧ Below w.heap.size w wr) (fun _ _ _ v _ => n.toNat + 1 - (intOf v).toNat)
  case atStart => exact ⟨0, by omega, rfl, rfl, rfl, rfl, Below.refl _ _⟩
  case round =>
    obtain ⟨b, hb, rfl, rfl, rfl, rfl, hbel⟩ := hrel
    by_cases hlt : (b : Int) ≤ n
    · have hlt' : (b : Int) < n + 1 := by omega
      have a := majN_range n b k h1 h2 (by omega) hlt h5 h6
      have c := majD_range n b k h1 h2 (by omega) hlt h5 h6
      have r := wst_range n k h1 h2 h5 h6 b hb
      have hh := wst_hit n k b
      have hm := wst_miss n k b
      obtain ⟨t, ht⟩ : ∃ t, t = wst n k b := ⟨_, rfl⟩
      rw [← ht] at hh hm r
      rw [← ht]
      clear ht
      obtain ⟨t1, t2, t3⟩ := t
      simp only at r hh hm
      obtain ⟨r0, r1, r2, r3, r4⟩ := r
      obtain ⟨a1, a2⟩ := a
      obtain ⟨c1, c2⟩ := c
      by_cases h0 : b = 0
      · have hb0 : ((b : Int) == 0) = true := by simp [h0]
        have HH := Lib.hid (hh (Or.inl h0))
        clear hh hm h0
        go_wp2_with fail
        refine (ccMajority_any _ _ _ _ h1 h2 (by omega) (by omega) h5 h6).mono ?_; rintro e w1 ⟨rfl, q1⟩
        have u1 := below_of_quiet q1
        clear q1
        have v1 := hbel.trans (u1.mono hbel.size)
        clear u1 hbel
        go_wp2
        go_roundw
        case rel => exact ⟨b + 1, by omega, by go_num, by rw [HH.out], by rw [HH.out], by rw [HH.out], v1⟩
        case measure => simp [intOf]; omega
      · have hb0 : ((b : Int) == 0) = false := by simp [h0]
        have sb := sgnI_bd (majN n b k * t3 - t2 * majD n b k)
        by_cases hs : 0 < sgnI (majN n b k * t3 - t2 * majD n b k)
        · have HH := Lib.hid (hh (Or.inr hs))
          clear hh hm
          go_wp2_with fail
          refine (ccMajority_any _ _ _ _ h1 h2 (by omega) (by omega) h5 h6).mono ?_; rintro e w1 ⟨rfl, q1⟩
          have u1 := below_of_quiet q1
          clear q1
          have v1 := hbel.trans (u1.mono hbel.size)
          clear u1 hbel
          go_wp2_with fail
          refine (ccCompare_any (majD n b k).toNat _ _ _ _ _ (Nat.le_refl _) (by omega) (by omega) (by omega) (by omega) (by omega) (by omega) (by omega) (by omega)).mono ?_; rintro e w2 ⟨rfl, q2⟩
          have u2 := below_of_quiet q2
          clear q2
          have v2 := v1.trans (u2.mono v1.size)
          clear u2 v1
          go_wp2
          go_roundw
          case rel => exact ⟨b + 1, by omega, by go_num, by rw [HH.out], by rw [HH.out], by rw [HH.out], v2⟩
          case measure => simp [intOf]; omega
        · have HH := Lib.hid (hm (by omega))
          clear hh hm
          go_wp2_with fail
          refine (ccMajority_any _ _ _ _ h1 h2 (by omega) (by omega) h5 h6).mono ?_; rintro e w1 ⟨rfl, q1⟩
          have u1 := below_of_quiet q1
          clear q1
          have v1 := hbel.trans (u1.mono hbel.size)
          clear u1 hbel
          go_wp2_with fail
          refine (ccCompare_any (majD n b k).toNat _ _ _ _ _ (Nat.le_refl _) (by omega) (by omega) (by omega) (by omega) (by omega) (by omega) (by omega) (by omega)).mono ?_; rintro e w2 ⟨rfl, q2⟩
          have u2 := below_of_quiet q2
          clear q2
          have v2 := v1.trans (u2.mono v1.size)
          clear u2 v1
          go_wp2
          go_roundw
          case rel => exact ⟨b + 1, by omega, by go_num, by rw [HH.out], by rw [HH.out], by rw [HH.out], v2⟩
          case measure => simp [intOf]; omega
    · have hbn : b = n.toNat + 1 := by omega
      have HB := Lib.hid hbn
      have hge : ¬ (b : Int) < n + 1 := by omega
      clear hbn
      go_wp2
      go_ret3
      exact ⟨ret_3 (v_int (by unfold worstI; rw [← HB.out])) (v_int (by unfold worstN; rw [← HB.out])) (v_int (by unfold worstD; rw [← HB.out])), hbel⟩
def wmI (n k : Int) : Int := if okC n k then worstI n k else 0
def wmN (n k : Int) : Int := if okC n k then worstN n k else 0
def wmD (n k : Int) : Int := if okC n k then worstD n k else 0
set_option maxHeartbeats 1000000 in
theorem WorstMajority_any (n k : Int) (w : World) :
    Calls Try.prog 11 #[.int .i64 n, .int .i64 k] w fun e w' => e = .returned (.tuple #[.int .i64 (wmI n k), .int .i64 (wmN n k), .int .i64 (wmD n k), .bool (okC n k)]) ∧ Below w.heap.size w w' := by
  unfold wmI wmN wmD
  cases h : okC n k
  · simp only [Bool.false_eq_true, if_false]
    go_enter Try.func11, Try.ntmps11
    go_wp2_with (first | (go_at_call 30; refine (isChecked_any _ _ _).mono ?_; rintro e w' ⟨rfl, m, rfl⟩))
    refine bodyPost_ret (results_tmp4 rfl _ _ _) rfl ?_
    exact ⟨rfl, below_of_drewN _⟩
  · obtain ⟨h1, h2, h3, h4⟩ := okC_range h
    simp only [if_true]
    go_enter Try.func11, Try.ntmps11
    go_wp2_with fail
    refine (isChecked_any _ _ _).mono ?_; rintro e w1 ⟨rfl, q1⟩
    have u1 := below_of_quiet q1
    clear q1
    go_wp2_with fail
    refine (worstMajority_any _ _ _ h1 h2 h3 h4).mono ?_; rintro e w2 ⟨rfl, u2⟩
    have v2 := u1.trans (u2.mono u1.size)
    clear u1 u2
    go_wp2
    refine bodyPost_ret (results_tmp4 rfl _ _ _) rfl ?_
    exact ⟨rfl, v2⟩
set_option maxHeartbeats 1000000 in
theorem spec_WorstMajority_any (n k : Int) (w : World) :
    Calls Try.prog 12 #[.int .i64 n, .int .i64 k] w fun e w' => e = .returned (.tuple #[.int .i64 (wmI n k), .int .i64 (wmN n k), .int .i64 (wmD n k), .bool (okC n k)]) ∧ Below w.heap.size w w' := by
  unfold wmI wmN wmD
  cases h : okC n k
  · simp only [Bool.false_eq_true, if_false]
    go_enter Try.func12, Try.ntmps12
    go_wp2_with (first | (go_at_call 33; refine (ccCopies_any _ _ _).mono ?_; rintro e w' ⟨rfl, m, rfl⟩))
    refine bodyPost_ret (results_tmp4 rfl _ _ _) rfl ?_
    exact ⟨rfl, below_of_drewN _⟩
  · obtain ⟨h1, h2, h3, h4⟩ := okC_range h
    simp only [if_true]
    go_enter Try.func12, Try.ntmps12
    go_wp2_with fail
    refine (ccCopies_any _ _ _).mono ?_; rintro e w1 ⟨rfl, q1⟩
    have u1 := below_of_quiet q1
    clear q1
    go_wp2_with fail
    refine (ccWorst_any _ _ _ h1 h2 h3 h4).mono ?_; rintro e w2 ⟨rfl, u2⟩
    have v2 := u1.trans (u2.mono u1.size)
    clear u1 u2
    go_wp2
    refine bodyPost_ret (results_tmp4 rfl _ _ _) rfl ?_
    exact ⟨rfl, v2⟩
/-- The best of the numbers of checks below t. -/
def bst (n : Int) : Nat → Nat
  | 0 => 0
  | t + 1 => if t ≠ 0 ∧ sgnI (worstN n t * worstD n (bst n t) - worstN n (bst n t) * worstD n t) < 0 then t else bst n t
theorem bst_le (n : Int) : ∀ t : Nat, bst n t ≤ t - 1
  | 0 => by simp [bst]
  | t + 1 => by
    have := bst_le n t
    rw [bst]; split <;> omega
theorem bst_hit (n : Int) (t : Nat) (h0 : t ≠ 0) (h : sgnI (worstN n t * worstD n (bst n t) - worstN n (bst n t) * worstD n t) < 0) : bst n (t + 1) = t := by rw [bst, if_pos ⟨h0, h⟩]
theorem bst_miss (n : Int) (t : Nat) (h : ¬ sgnI (worstN n t * worstD n (bst n t) - worstN n (bst n t) * worstD n t) < 0) : bst n (t + 1) = bst n t := by rw [bst, if_neg (fun k => h k.2)]
theorem bst_one (n : Int) : bst n 1 = 0 := by simp [bst]
def bestI (n : Int) : Int := (bst n n.toNat : Nat)
def bcV (n : Int) : Int := if 1 ≤ n ∧ n ≤ 40 then bestI n else 0
def bcB (n : Int) : Bool := decide (1 ≤ n ∧ n ≤ 40)
/-- Whether k copies keep the chance. -/
def lstP (a d : Int) (k : Nat) : Bool := decide (sgnI (worstN k (bestI k) * d - a * worstD k (bestI k)) ≤ 0)
def lstO (a d : Int) : Option Nat := (List.range 40).find? fun j => lstP a d (j + 1)
def lcOk (a d : Int) : Bool := decide (1 ≤ a ∧ a ≤ 1000 ∧ 1 ≤ d ∧ d ≤ 1000000)
def lcN (a d : Int) : Int := if lcOk a d then (match lstO a d with | some j => ((j + 1 : Nat) : Int) | none => 0) else 0
def lcT (a d : Int) : Int := if lcOk a d then (match lstO a d with | some j => bestI ((j + 1 : Nat) : Int) | none => 0) else 0
def lcB (a d : Int) : Bool := lcOk a d && (lstO a d).isSome
theorem bestI_range (k : Nat) (h : 1 ≤ k) : 0 ≤ bestI k ∧ bestI k ≤ (k : Int) - 1 := by
  have := bst_le k k
  unfold bestI
  simp only [Int.toNat_natCast]
  omega
theorem lst_hit (a d : Int) (k : Nat) (h1 : 1 ≤ k) (h2 : k ≤ 40) (hp : lstP a d k = true) (hj : ∀ j : Nat, j + 1 < k → lstP a d (j + 1) = false) (hv : 1 ≤ a ∧ a ≤ 1000 ∧ 1 ≤ d ∧ d ≤ 1000000) : lcN a d = k ∧ lcT a d = bestI k ∧ lcB a d = true := by
  have ho : lstO a d = some (k - 1) := by
    unfold lstO
    rw [List.find?_range_eq_some]
    refine ⟨by rw [show k - 1 + 1 = k from by omega]; exact hp, by simp; omega, fun j hjk => by rw [hj j (by omega)]; rfl⟩
  have hk : lcOk a d = true := by unfold lcOk; exact decide_eq_true hv
  unfold lcN lcT lcB
  rw [hk, ho]
  have e : k - 1 + 1 = k := by omega
  simp [e]
theorem lst_miss (a d : Int) (hj : ∀ j : Nat, j + 1 ≤ 40 → lstP a d (j + 1) = false) : lcN a d = 0 ∧ lcT a d = 0 ∧ lcB a d = false := by
  have ho : lstO a d = none := by
    unfold lstO
    rw [List.find?_range_eq_none]
    intro j hjk
    rw [hj j (by omega)]; rfl
  unfold lcN lcT lcB
  rw [ho]
  simp
theorem lst_no (a d : Int) (h : ¬ (1 ≤ a ∧ a ≤ 1000 ∧ 1 ≤ d ∧ d ≤ 1000000)) : lcN a d = 0 ∧ lcT a d = 0 ∧ lcB a d = false := by
  have hk : lcOk a d = false := by unfold lcOk; exact decide_eq_false h
  unfold lcN lcT lcB
  rw [hk]
  simp
end Go.Proofs.Ytnhphmhckbjnnaa
