/- Walks of functions that only compute: remainders, primes, bits, sets, fractions. Each returns a plain function of its arguments and only draws. -/
import Derived.Test.YtjndhgjmnoiegaaDoorBase
import Derived.Deep.QuietTactic
import Derived.BigQuiet
namespace Go.Proofs.YtjndhgjmnoiegaaDoor
open Go.RowKit

theorem mod_core (p n : Int) (h1 : 1 ≤ p) : (n.tmod p + p) % p = n % p := by
  have a1 := Int.emod_nonneg n (by omega : p ≠ 0)
  have a2 := Int.emod_lt_of_pos n (by omega : 0 < p)
  rw [Int.tmod_eq_emod (a := n)]
  split
  · simp
  · rw [show n % p - (p.natAbs : Int) + p = n % p from by omega, Int.emod_emod]

/-- A number in a range. -/
def inB (n lo hi : Int) : Bool := decide (lo ≤ n ∧ n ≤ hi)
theorem inB_yes {n lo hi : Int} (h1 : lo ≤ n) (h2 : n ≤ hi) : inB n lo hi = true := decide_eq_true ⟨h1, h2⟩
theorem inB_no {n lo hi : Int} (h : ¬ (lo ≤ n ∧ n ≤ hi)) : inB n lo hi = false := decide_eq_false h
theorem inB_true {n lo hi : Int} (h : inB n lo hi = true) : lo ≤ n ∧ n ≤ hi := of_decide_eq_true h
set_option maxHeartbeats 400000 in
theorem within_any (n lo hi : Int) (w : World) :
    Calls Tryd.prog 22 #[.int .i64 n, .int .i64 lo, .int .i64 hi] w fun e w' => e = .returned (.bool (inB n lo hi)) ∧ w = w' := by
  by_cases h1 : lo ≤ n
  · have b1 : decide (lo ≤ n) = true := decide_eq_true h1
    go_enter Tryd.func22, Tryd.ntmps22
    go_wp2
    go_ret
    exact ⟨ret_bool (by unfold inB; simp [h1]), rfl⟩
  · have b1 : decide (lo ≤ n) = false := decide_eq_false h1
    go_enter Tryd.func22, Tryd.ntmps22
    go_wp2
    go_ret
    exact ⟨ret_bool (decide_eq_false (by omega)).symm, rfl⟩
set_option maxHeartbeats 400000 in
theorem l1In_any (n lo hi : Int) (w : World) :
    Calls Tryd.prog 20 #[.int .i64 n, .int .i64 lo, .int .i64 hi] w fun e w' => e = .returned (.bool (inB n lo hi)) ∧ w = w' := by
  by_cases h1 : lo ≤ n
  · have b1 : decide (lo ≤ n) = true := decide_eq_true h1
    go_enter Tryd.func20, Tryd.ntmps20
    go_wp2
    go_ret
    exact ⟨ret_bool (by unfold inB; simp [h1]), rfl⟩
  · have b1 : decide (lo ≤ n) = false := decide_eq_false h1
    go_enter Tryd.func20, Tryd.ntmps20
    go_wp2
    go_ret
    exact ⟨ret_bool (decide_eq_false (by omega)).symm, rfl⟩

/-- The number of sets, by the product. -/
def mb (n : Nat) : Nat → Nat
  | 0 => 1
  | i + 1 => mb n i * (n - i) / (i + 1)
theorem mb_bd : ∀ n, n < 41 → ∀ i, i < 41 → mb n i * (n - i) ≤ 4000000000000000000 ∧ mb n i ≤ 4000000000000000000 := by decide +kernel
theorem mb_sym : ∀ n, n < 41 → ∀ k, k ≤ n → mb n (min k (n - k)) = mb n k := by decide +kernel
theorem mb_pos : ∀ n, n < 41 → ∀ k, k ≤ n → 1 ≤ mb n k := by decide +kernel
/-- The number of sets of k out of n, 0 where there is none. -/
def setsI (n k : Int) : Int := if k < 0 ∨ n < k then 0 else (mb n.toNat k.toNat : Nat)

/-- A prime up to 251. -/
def isPr (p : Int) : Bool := decide (2 ≤ p ∧ p ≤ 251 ∧ ∀ d : Nat, d < 16 → 2 ≤ d → (d : Int) * d ≤ p → p % d ≠ 0)
theorem isPr_range {p : Int} (h : isPr p = true) : 2 ≤ p ∧ p ≤ 251 := by
  unfold isPr at h; simp only [decide_eq_true_eq] at h; exact ⟨h.1, h.2.1⟩
theorem isPr_no {p : Int} (h : ¬ (2 ≤ p ∧ p ≤ 251)) : isPr p = false := by
  unfold isPr; simp only [decide_eq_false_iff_not]; exact fun k => h ⟨k.1, k.2.1⟩
theorem isPr_hit {p : Int} (d : Nat) (h1 : d < 16) (h2 : 2 ≤ d) (h3 : (d : Int) * d ≤ p) (h4 : p % d = 0) : isPr p = false := by
  unfold isPr; simp only [decide_eq_false_iff_not]; exact fun k => k.2.2 d h1 h2 h3 h4
theorem isPr_yes {p : Int} (h1 : 2 ≤ p) (h2 : p ≤ 251) (h : ∀ d : Nat, d < 16 → 2 ≤ d → (d : Int) * d ≤ p → p % d ≠ 0) : isPr p = true := by
  unfold isPr; simp only [decide_eq_true_eq]; exact ⟨h1, h2, h⟩
set_option maxHeartbeats 400000 in
theorem IsPrime_any (p : Int) (w : World) :
    Calls Tryd.prog 15 #[.int .i64 p] w fun e w' => e = .returned (.bool (isPr p)) ∧ ∃ m, w' = w.drewN m := by
  by_cases h1 : 2 ≤ p
  · by_cases h2 : p ≤ 251
    · go_enter Tryd.func15, Tryd.ntmps15
      go_wp2
      go_loop [3] (fun v => ∃ d : Nat, 2 ≤ d ∧ d ≤ 16 ∧ (∀ e : Nat, e < d → 2 ≤ e → (e : Int) * e ≤ p → p % e ≠ 0) ∧ v = .int .i64 d) (fun v => 20 - (intOf v).toNat)
      case atStart => exact ⟨2, by omega, by omega, fun e h h' => absurd h (by omega), rfl⟩
      case round =>
        obtain ⟨d, hd2, hd16, hd, rfl⟩ := hrel
        have HD := Lib.hid hd
        clear hd
        have hm : (d : Int) * d ≤ 256 := by
          have : d * d ≤ 16 * 16 := Nat.mul_le_mul hd16 hd16
          omega
        have hm0 : (0 : Int) ≤ (d : Int) * d := Int.mul_nonneg (by omega) (by omega)
        by_cases hlt : (d : Int) * d ≤ p
        · have hd15 : d < 16 := by
            by_cases e : d = 16
            · subst e; omega
            · omega
          by_cases hz : p % d = 0
          · have hz' : (p % (d : Int) == 0) = true := by simp [hz]
            have HR := Lib.hid (isPr_hit d hd15 hd2 hlt hz)
            clear hz
            go_wp2
            go_ret
            exact ⟨ret_bool HR.out.symm, 0, rfl⟩
          · have hz' : (p % (d : Int) == 0) = false := by simp [hz]
            have HZ := Lib.hid hz
            clear hz
            go_wp2
            go_round
            case rel =>
              refine ⟨d + 1, by omega, by omega, ?_, by go_num⟩
              intro e he h2e hee
              by_cases hed : e = d
              · subst hed; exact HZ.out
              · exact HD.out e (by omega) h2e hee
            case measure => simp [intOf]; omega
        · have HR := Lib.hid (isPr_yes h1 h2 (fun e _ h2e hee => HD.out e (by
            apply Nat.lt_of_not_le
            intro hde
            have : d * d ≤ e * e := Nat.mul_le_mul hde hde
            omega) h2e hee))
          go_wp2
          go_ret
          exact ⟨ret_bool HR.out.symm, 0, rfl⟩
    · have HR := Lib.hid (isPr_no (p := p) (by omega))
      go_enter Tryd.func15, Tryd.ntmps15
      go_wp2
      go_ret
      exact ⟨ret_bool HR.out.symm, 0, rfl⟩
  · have HR := Lib.hid (isPr_no (p := p) (by omega))
    go_enter Tryd.func15, Tryd.ntmps15
    go_wp2
    go_ret
    exact ⟨ret_bool HR.out.symm, 0, rfl⟩
set_option maxHeartbeats 400000 in
theorem fpGood_any (p : Int) (w : World) :
    Calls Tryd.prog 12 #[.int .i64 p] w fun e w' => e = .returned (.bool (isPr p)) ∧ ∃ m, w' = w.drewN m := by
  by_cases h1 : 2 ≤ p
  · by_cases h2 : p ≤ 251
    · go_enter Tryd.func12, Tryd.ntmps12
      go_wp2
      go_loop [3] (fun v => ∃ d : Nat, 2 ≤ d ∧ d ≤ 16 ∧ (∀ e : Nat, e < d → 2 ≤ e → (e : Int) * e ≤ p → p % e ≠ 0) ∧ v = .int .i64 d) (fun v => 20 - (intOf v).toNat)
      case atStart => exact ⟨2, by omega, by omega, fun e h h' => absurd h (by omega), rfl⟩
      case round =>
        obtain ⟨d, hd2, hd16, hd, rfl⟩ := hrel
        have HD := Lib.hid hd
        clear hd
        have hm : (d : Int) * d ≤ 256 := by
          have : d * d ≤ 16 * 16 := Nat.mul_le_mul hd16 hd16
          omega
        have hm0 : (0 : Int) ≤ (d : Int) * d := Int.mul_nonneg (by omega) (by omega)
        by_cases hlt : (d : Int) * d ≤ p
        · have hd15 : d < 16 := by
            by_cases e : d = 16
            · subst e; omega
            · omega
          by_cases hz : p % d = 0
          · have hz' : (p % (d : Int) == 0) = true := by simp [hz]
            have HR := Lib.hid (isPr_hit d hd15 hd2 hlt hz)
            clear hz
            go_wp2
            go_ret
            exact ⟨ret_bool HR.out.symm, 0, rfl⟩
          · have hz' : (p % (d : Int) == 0) = false := by simp [hz]
            have HZ := Lib.hid hz
            clear hz
            go_wp2
            go_round
            case rel =>
              refine ⟨d + 1, by omega, by omega, ?_, by go_num⟩
              intro e he h2e hee
              by_cases hed : e = d
              · subst hed; exact HZ.out
              · exact HD.out e (by omega) h2e hee
            case measure => simp [intOf]; omega
        · have HR := Lib.hid (isPr_yes h1 h2 (fun e _ h2e hee => HD.out e (by
            apply Nat.lt_of_not_le
            intro hde
            have : d * d ≤ e * e := Nat.mul_le_mul hde hde
            omega) h2e hee))
          go_wp2
          go_ret
          exact ⟨ret_bool HR.out.symm, 0, rfl⟩
    · have HR := Lib.hid (isPr_no (p := p) (by omega))
      go_enter Tryd.func12, Tryd.ntmps12
      go_wp2
      go_ret
      exact ⟨ret_bool HR.out.symm, 0, rfl⟩
  · have HR := Lib.hid (isPr_no (p := p) (by omega))
    go_enter Tryd.func12, Tryd.ntmps12
    go_wp2
    go_ret
    exact ⟨ret_bool HR.out.symm, 0, rfl⟩
end Go.Proofs.YtjndhgjmnoiegaaDoor
