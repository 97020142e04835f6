/- Walks of functions that only compute: remainders, primes, bits, sets, fractions. Each returns a plain function of its arguments and only draws. -/
import Derived.Test.YtnhphmhckbjnnaaBase
import Derived.Deep.QuietTactic
import Derived.BigQuiet
namespace Go.Proofs.Ytnhphmhckbjnnaa
open Go.RowKit

theorem mod_core (p n : Int) (h1 : 1 ≤ p) : (n.tmod p + p) % p = n % p := by
  have a1 := Int.emod_nonneg n (by omega : p ≠ 0)
  have a2 := Int.emod_lt_of_pos n (by omega : 0 < p)
  rw [Int.tmod_eq_emod (a := n)]
  split
  · simp
  · rw [show n % p - (p.natAbs : Int) + p = n % p from by omega, Int.emod_emod]

/-- A number in a range. -/
def inB (n lo hi : Int) : Bool := decide (lo ≤ n ∧ n ≤ hi)
theorem inB_yes {n lo hi : Int} (h1 : lo ≤ n) (h2 : n ≤ hi) : inB n lo hi = true := decide_eq_true ⟨h1, h2⟩
theorem inB_no {n lo hi : Int} (h : ¬ (lo ≤ n ∧ n ≤ hi)) : inB n lo hi = false := decide_eq_false h
theorem inB_true {n lo hi : Int} (h : inB n lo hi = true) : lo ≤ n ∧ n ≤ hi := of_decide_eq_true h
set_option maxHeartbeats 400000 in
theorem within_any (n lo hi : Int) (w : World) :
    Calls Try.prog 31 #[.int .i64 n, .int .i64 lo, .int .i64 hi] w fun e w' => e = .returned (.bool (inB n lo hi)) ∧ w = w' := by
  by_cases h1 : lo ≤ n
  · have b1 : decide (lo ≤ n) = true := decide_eq_true h1
    go_enter Try.func31, Try.ntmps31
    go_wp2
    go_ret
    exact ⟨ret_bool (by unfold inB; simp [h1]), rfl⟩
  · have b1 : decide (lo ≤ n) = false := decide_eq_false h1
    go_enter Try.func31, Try.ntmps31
    go_wp2
    go_ret
    exact ⟨ret_bool (decide_eq_false (by omega)).symm, rfl⟩
set_option maxHeartbeats 400000 in
theorem l1In_any (n lo hi : Int) (w : World) :
    Calls Try.prog 34 #[.int .i64 n, .int .i64 lo, .int .i64 hi] w fun e w' => e = .returned (.bool (inB n lo hi)) ∧ w = w' := by
  by_cases h1 : lo ≤ n
  · have b1 : decide (lo ≤ n) = true := decide_eq_true h1
    go_enter Try.func34, Try.ntmps34
    go_wp2
    go_ret
    exact ⟨ret_bool (by unfold inB; simp [h1]), rfl⟩
  · have b1 : decide (lo ≤ n) = false := decide_eq_false h1
    go_enter Try.func34, Try.ntmps34
    go_wp2
    go_ret
    exact ⟨ret_bool (decide_eq_false (by omega)).symm, rfl⟩
set_option maxHeartbeats 400000 in
theorem reduced_any (a b : Int) (w : World) (h1 : 0 ≤ a) (h2 : a ≤ 4000000000000000000) (h3 : 1 ≤ b) (h4 : b ≤ 4000000000000000000) :
    Calls Try.prog 61 #[.int .i64 a, .int .i64 b] w fun e w' => e = .returned (.tuple #[.int .i64 (a / (Int.gcd a b : Int)), .int .i64 (b / (Int.gcd a b : Int))]) ∧ ∃ m, w' = w.drewN m := by
  have hgp : 0 < Int.gcd a b := Int.gcd_pos_of_ne_zero_right a (by omega)
  go_enter Try.func61, Try.ntmps61
  go_wp2
  go_loopw [6, 7] (fun u v wr => (∃ m, wr = w.drewN m) ∧ ∃ x y : Nat, (x : Int) ≤ 4000000000000000000 ∧ (y : Int) ≤ 4000000000000000000 ∧ Nat.gcd x y = Int.gcd a b ∧ u = .int .i64 x ∧ v = .int .i64 y) (fun _ v _ => (intOf v).toNat)
  case atStart => exact ⟨⟨0, rfl⟩, a.toNat, b.toNat, by omega, by omega, by simp [Int.gcd]; congr 1 <;> omega, by congr 1; omega, by congr 1; omega⟩
  case round =>
    obtain ⟨⟨m, rfl⟩, x, y, hx, hy, hg, rfl, rfl⟩ := hrel
    by_cases hy0 : y = 0
    · subst hy0
      simp at hg
      subst hg
      have hp : (0 : Int) < Int.gcd a b := by omega
      go_wp2
      go_quiet (fail)
      go_wp2
      go_ret2
      exact ⟨rfl, _, by first | rfl | exact World.drewN_drewN ..⟩
    · have hpos : (0 : Int) < y := by omega
      have e1 : (x : Int).tmod y = ((x % y : Nat) : Int) := by rw [Int.tmod_eq_emod_of_nonneg (by omega)]; rfl
      have hlt : x % y < y := Nat.mod_lt _ (by omega)
      have hg2 : Nat.gcd y (x % y) = Int.gcd a b := by rw [← hg, Nat.gcd_comm, ← Nat.gcd_rec, Nat.gcd_comm]
      have Hg := Lib.hid hg2
      clear hg hg2
      have hb : ((y : Int) != 0) = true := by simp; omega
      go_wp2
      go_quiet (fail)
      go_wp2
      go_roundw
      case rel => exact ⟨⟨_, by first | rfl | exact World.drewN_drewN ..⟩, y, x % y, hy, by omega, Hg.out, by first | rfl | trace_state, by first | rfl | trace_state⟩
      case measure => simp [intOf]; omega
set_option maxHeartbeats 400000 in
theorem ccPart_any (a b : Int) (w : World) (h1 : 0 ≤ a) (h2 : a ≤ 4000000000000000000) (h3 : 1 ≤ b) (h4 : b ≤ 4000000000000000000) :
    Calls Try.prog 63 #[.int .i64 a, .int .i64 b] w fun e w' => e = .returned (.tuple #[.int .i64 (a / (Int.gcd a b : Int)), .int .i64 (b / (Int.gcd a b : Int))]) ∧ ∃ m, w' = w.drewN m := by
  have hgp : 0 < Int.gcd a b := Int.gcd_pos_of_ne_zero_right a (by omega)
  go_enter Try.func63, Try.ntmps63
  go_wp2
  go_loopw [6, 7] (fun u v wr => (∃ m, wr = w.drewN m) ∧ ∃ x y : Nat, (x : Int) ≤ 4000000000000000000 ∧ (y : Int) ≤ 4000000000000000000 ∧ Nat.gcd x y = Int.gcd a b ∧ u = .int .i64 x ∧ v = .int .i64 y) (fun _ v _ => (intOf v).toNat)
  case atStart => exact ⟨⟨0, rfl⟩, a.toNat, b.toNat, by omega, by omega, by simp [Int.gcd]; congr 1 <;> omega, by congr 1; omega, by congr 1; omega⟩
  case round =>
    obtain ⟨⟨m, rfl⟩, x, y, hx, hy, hg, rfl, rfl⟩ := hrel
    by_cases hy0 : y = 0
    · subst hy0
      simp at hg
      subst hg
      have hp : (0 : Int) < Int.gcd a b := by omega
      go_wp2
      go_quiet (fail)
      go_wp2
      go_ret2
      exact ⟨rfl, _, by first | rfl | exact World.drewN_drewN ..⟩
    · have hpos : (0 : Int) < y := by omega
      have e1 : (x : Int).tmod y = ((x % y : Nat) : Int) := by rw [Int.tmod_eq_emod_of_nonneg (by omega)]; rfl
      have hlt : x % y < y := Nat.mod_lt _ (by omega)
      have hg2 : Nat.gcd y (x % y) = Int.gcd a b := by rw [← hg, Nat.gcd_comm, ← Nat.gcd_rec, Nat.gcd_comm]
      have Hg := Lib.hid hg2
      clear hg hg2
      go_wp2
      go_roundw
      case rel => exact ⟨⟨m, rfl⟩, y, x % y, hy, by omega, Hg.out, rfl, rfl⟩
      case measure => simp [intOf]; omega

/-- The number of sets, by the product. -/
def mb (n : Nat) : Nat → Nat
  | 0 => 1
  | i + 1 => mb n i * (n - i) / (i + 1)
theorem mb_bd : ∀ n, n < 41 → ∀ i, i < 41 → mb n i * (n - i) ≤ 4000000000000000000 ∧ mb n i ≤ 4000000000000000000 := by decide +kernel
theorem mb_sym : ∀ n, n < 41 → ∀ k, k ≤ n → mb n (min k (n - k)) = mb n k := by decide +kernel
theorem mb_pos : ∀ n, n < 41 → ∀ k, k ≤ n → 1 ≤ mb n k := by decide +kernel
/-- The number of sets of k out of n, 0 where there is none. -/
def setsI (n k : Int) : Int := if k < 0 ∨ n < k then 0 else (mb n.toNat k.toNat : Nat)

set_option maxHeartbeats 400000 in
theorem sets_any (n k : Int) (w : World) (h1 : 0 ≤ n) (h2 : n ≤ 40) :
    Calls Try.prog 62 #[.int .i64 n, .int .i64 k] w fun e w' => e = .returned (.int .i64 (setsI n k)) ∧ ∃ m, w' = w.drewN m := by
  by_cases hk : 0 ≤ k
  · by_cases hn : k ≤ n
    · have hs : setsI n k = (mb n.toNat k.toNat : Nat) := by unfold setsI; rw [if_neg (by omega)]
      rw [hs]
      obtain ⟨n, rfl⟩ := Int.eq_ofNat_of_zero_le h1
      obtain ⟨k, rfl⟩ := Int.eq_ofNat_of_zero_le hk
      clear hs
      simp only [Int.toNat_natCast]
      go_enter Try.func62, Try.ntmps62
      go_wp2
      go_loop [5, 15] (fun o v => ∃ i : Nat, i ≤ k ∧ o = .int .i64 (mb n i : Nat) ∧ v = .int .i64 i) (fun _ v => k - (intOf v).toNat)
      case atStart => exact ⟨0, Nat.zero_le _, rfl, rfl⟩
      case round =>
        obtain ⟨i, hi, rfl, rfl⟩ := hrel
        have hb := mb_bd n (by omega) i (by omega)
        by_cases hlt : i < k
        · have e1 : (mb n i : Int) * ((n : Int) - i) = ((mb n i * (n - i) : Nat) : Int) := by rw [Int.natCast_mul, Int.ofNat_sub (by omega)]
          have e2 : mb n i * (n - i) / (i + 1) = mb n (i + 1) := rfl
          have E2 := Lib.hid e2
          clear e2
          generalize hz : mb n i * (n - i) = z at *
          clear hz
          have hq1 : (0 : Int) ≤ (z : Int) / ((i : Int) + 1) := Int.ediv_nonneg (by omega) (by omega)
          have hq2 : (z : Int) / ((i : Int) + 1) ≤ z := Int.ediv_le_self _ (by omega)
          go_wp2
          go_round
          case rel => exact ⟨i + 1, by omega, v_int (by rw [← E2.out]; rfl), by go_num⟩
          case measure => simp [intOf]; omega
        · have : i = k := by omega
          subst this
          go_wp2
          go_ret
          exact ⟨rfl, 0, rfl⟩
    · have hs : setsI n k = 0 := by unfold setsI; rw [if_pos (by omega)]
      rw [hs]
      clear hs
      go_enter Try.func62, Try.ntmps62
      go_wp2
      go_ret
      exact ⟨rfl, 0, rfl⟩
  · have hs : setsI n k = 0 := by unfold setsI; rw [if_pos (by omega)]
    rw [hs]
    clear hs
    go_enter Try.func62, Try.ntmps62
    go_wp2
    go_ret
    exact ⟨rfl, 0, rfl⟩
set_option maxHeartbeats 400000 in
theorem l1Least_any (a b : Int) (w : World) :
    Calls Try.prog 77 #[.int .i64 a, .int .i64 b] w fun e w' => e = .returned (.int .i64 (min a b)) ∧ ∃ m, w' = w.drewN m := by
  by_cases h : a < b
  all_goals
    go_enter Try.func77, Try.ntmps77
    go_wp2
    go_ret
    exact ⟨ret_int (by omega), 0, rfl⟩
set_option maxHeartbeats 400000 in
theorem ccSets_any (n k : Int) (w : World) (h1 : 0 ≤ n) (h2 : n ≤ 40) :
    Calls Try.prog 64 #[.int .i64 n, .int .i64 k] w fun e w' => e = .returned (.int .i64 (setsI n k)) ∧ ∃ m, w' = w.drewN m := by
  by_cases hk : 0 ≤ k
  · by_cases hn : k ≤ n
    · have hs : setsI n k = (mb n.toNat k.toNat : Nat) := by unfold setsI; rw [if_neg (by omega)]
      rw [hs, ← mb_sym n.toNat (by omega) k.toNat (by omega)]
      obtain ⟨n, rfl⟩ := Int.eq_ofNat_of_zero_le h1
      obtain ⟨k, rfl⟩ := Int.eq_ofNat_of_zero_le hk
      clear hs
      simp only [Int.toNat_natCast]
      obtain ⟨l, hl⟩ : ∃ l, l = min k (n - k) := ⟨_, rfl⟩
      have hl1 : l ≤ k := by omega
      have hl2 : l ≤ n - k := by omega
      rw [← hl]
      have HL := Lib.hid hl
      clear hl
      have d1 : decide ((k : Int) < 0) = false := by simp
      have d2 : decide (n < k) = false := by simp; omega
      go_enter Try.func64, Try.ntmps64
      go_wp2
      go_loopw [5, 6] (fun o v wr => (∃ m, wr = w.drewN m) ∧ ∃ i : Nat, i ≤ l ∧ o = .int .i64 (mb n i : Nat) ∧ v = .int .i64 ((i : Int) + 1)) (fun _ v _ => k + 1 - (intOf v).toNat)
      case atStart => exact ⟨⟨0, rfl⟩, 0, Nat.zero_le _, rfl, rfl⟩
      case round =>
        obtain ⟨⟨m, rfl⟩, i, hi, rfl, rfl⟩ := hrel
        have hb := mb_bd n (by omega) i (by omega)
        have hmin : min (k : Int) ((n : Int) - k) = (l : Int) := by have := HL.out; omega
        by_cases hlt : i < l
        · have e1 : (mb n i : Int) * ((n : Int) - (i + 1) + 1) = ((mb n i * (n - i) : Nat) : Int) := by rw [Int.natCast_mul, Int.ofNat_sub (by omega)]; congr 1; omega
          have e2 : mb n i * (n - i) / (i + 1) = mb n (i + 1) := rfl
          have E2 := Lib.hid e2
          clear e2
          generalize hz : mb n i * (n - i) = z at *
          clear hz
          have hq1 : (0 : Int) ≤ (z : Int) / ((i : Int) + 1) := Int.ediv_nonneg (by omega) (by omega)
          have hq2 : (z : Int) / ((i : Int) + 1) ≤ z := Int.ediv_le_self _ (by omega)
          go_wp2_with (go_at_call 77; refine (l1Least_any _ _ _).mono ?_; rintro e w' ⟨rfl, m', rfl⟩)
          go_roundw
          case rel => exact ⟨⟨_, by first | rfl | exact World.drewN_drewN ..⟩, i + 1, by omega, v_int (by rw [← E2.out]; rfl), by go_num⟩
          case measure => simp [intOf]; omega
        · have : i = l := by omega
          subst this
          go_wp2_with (go_at_call 77; refine (l1Least_any _ _ _).mono ?_; rintro e w' ⟨rfl, m', rfl⟩)
          go_ret
          exact ⟨rfl, _, by first | rfl | exact World.drewN_drewN ..⟩
    · have hs : setsI n k = 0 := by unfold setsI; rw [if_pos (by omega)]
      rw [hs]
      clear hs
      go_enter Try.func64, Try.ntmps64
      go_wp2
      go_ret
      exact ⟨rfl, 0, rfl⟩
  · have hs : setsI n k = 0 := by unfold setsI; rw [if_pos (by omega)]
    rw [hs]
    clear hs
    go_enter Try.func64, Try.ntmps64
    go_wp2
    go_ret
    exact ⟨rfl, 0, rfl⟩
/-- A prime up to 251. -/
def isPr (p : Int) : Bool := decide (2 ≤ p ∧ p ≤ 251 ∧ ∀ d : Nat, d < 16 → 2 ≤ d → (d : Int) * d ≤ p → p % d ≠ 0)
theorem isPr_range {p : Int} (h : isPr p = true) : 2 ≤ p ∧ p ≤ 251 := by
  unfold isPr at h; simp only [decide_eq_true_eq] at h; exact ⟨h.1, h.2.1⟩
theorem isPr_no {p : Int} (h : ¬ (2 ≤ p ∧ p ≤ 251)) : isPr p = false := by
  unfold isPr; simp only [decide_eq_false_iff_not]; exact fun k => h ⟨k.1, k.2.1⟩
theorem isPr_hit {p : Int} (d : Nat) (h1 : d < 16) (h2 : 2 ≤ d) (h3 : (d : Int) * d ≤ p) (h4 : p % d = 0) : isPr p = false := by
  unfold isPr; simp only [decide_eq_false_iff_not]; exact fun k => k.2.2 d h1 h2 h3 h4
theorem isPr_yes {p : Int} (h1 : 2 ≤ p) (h2 : p ≤ 251) (h : ∀ d : Nat, d < 16 → 2 ≤ d → (d : Int) * d ≤ p → p % d ≠ 0) : isPr p = true := by
  unfold isPr; simp only [decide_eq_true_eq]; exact ⟨h1, h2, h⟩
end Go.Proofs.Ytnhphmhckbjnnaa
