/- The width of a number: both loops return the least exponent. -/
import Derived.Test.YtkbhigdciokfkaaBase
namespace Go.Proofs.Ytkbhigdciokfkaa
open Go.RowKit

/-- The least exponent of 2 that reaches n (n at most 256). -/
def wid (n : Int) : Nat := if n ≤ 1 then 0 else if n ≤ 2 then 1 else if n ≤ 4 then 2 else if n ≤ 8 then 3 else if n ≤ 16 then 4 else if n ≤ 32 then 5 else if n ≤ 64 then 6 else if n ≤ 128 then 7 else 8

theorem wid_cases (n : Int) : (n ≤ 1 ∧ wid n = 0) ∨ (1 < n ∧ n ≤ 2 ∧ wid n = 1) ∨ (2 < n ∧ n ≤ 4 ∧ wid n = 2) ∨ (4 < n ∧ n ≤ 8 ∧ wid n = 3) ∨ (8 < n ∧ n ≤ 16 ∧ wid n = 4) ∨ (16 < n ∧ n ≤ 32 ∧ wid n = 5) ∨
    (32 < n ∧ n ≤ 64 ∧ wid n = 6) ∨ (64 < n ∧ n ≤ 128 ∧ wid n = 7) ∨ (128 < n ∧ wid n = 8) := by
  unfold wid
  (repeat' split) <;> omega
theorem wid_le (n : Int) : wid n ≤ 8 := by have := wid_cases n; omega
theorem wid_lt (n : Int) (k : Nat) (h : n ≤ 256) (hk : k ≤ wid n) : k < wid n ↔ (2 : Int) ^ k < n := by
  have := wid_cases n
  generalize wid n = v at *
  rcases (by omega : k = 0 ∨ k = 1 ∨ k = 2 ∨ k = 3 ∨ k = 4 ∨ k = 5 ∨ k = 6 ∨ k = 7 ∨ k = 8) with rfl | rfl | rfl | rfl | rfl | rfl | rfl | rfl | rfl <;>
    omega

theorem pow_in (k : Nat) (h : k ≤ 8) : wrap64 ((2 : Int) ^ k) = (2 : Int) ^ k := by
  apply IntWalk.wrap64_in <;>
  rcases (by omega : k = 0 ∨ k = 1 ∨ k = 2 ∨ k = 3 ∨ k = 4 ∨ k = 5 ∨ k = 6 ∨ k = 7 ∨ k = 8) with rfl | rfl | rfl | rfl | rfl | rfl | rfl | rfl | rfl <;> omega

set_option maxHeartbeats 400000 in
theorem indexWidth_any (n : Int) (w : World) (_h1 : 1 ≤ n) (h2 : n ≤ 256) :
    Calls Try.prog 81 #[.int .i64 n] w fun e w' => e = .returned (.int .i64 (wid n)) ∧ w = w' := by
  go_enter Try.func81, Try.ntmps81
  go_wp2
  go_loop [3] (fun v => ∃ k : Nat, k ≤ wid n ∧ v = .int .i64 k) (fun v => 8 - (intOf v).toNat)
  case atStart => exact ⟨0, Nat.zero_le _, rfl⟩
  case round =>
    obtain ⟨k, hk, rfl⟩ := hrel
    have h8 := wid_le n
    have hp := pow_in k (by omega)
    have hw := wid_lt n k h2 hk
    by_cases hlt : k < wid n
    · have h3 : (2 : Int) ^ k < n := hw.1 hlt
      clear hw
      go_wp2
      go_round
      case rel => exact ⟨k + 1, by omega, by go_num⟩
      case measure => simp [intOf]; omega
    · have h3 : ¬ (2 : Int) ^ k < n := fun h => hlt (hw.2 h)
      have h4 : k = wid n := by omega
      have H4 := Lib.hid h4
      clear hw h4
      go_wp2
      go_ret
      exact ⟨ret_int (by rw [← H4.out]), rfl⟩

set_option maxHeartbeats 400000 in
theorem widthFor_any (n : Int) (w : World) (_h1 : 1 ≤ n) (h2 : n ≤ 256) :
    Calls Try.prog 71 #[.int .i64 n] w fun e w' => e = .returned (.int .i64 (wid n)) ∧ w = w' := by
  go_enter Try.func71, Try.ntmps71
  go_wp2
  go_loop [3] (fun v => ∃ k : Nat, k ≤ wid n ∧ v = .int .i64 k) (fun v => 8 - (intOf v).toNat)
  case atStart => exact ⟨0, Nat.zero_le _, rfl⟩
  case round =>
    obtain ⟨k, hk, rfl⟩ := hrel
    have h8 := wid_le n
    have hp := pow_in k (by omega)
    have hw := wid_lt n k h2 hk
    by_cases hlt : k < wid n
    · have h3 : (2 : Int) ^ k < n := hw.1 hlt
      clear hw
      go_wp2
      go_round
      case rel => exact ⟨k + 1, by omega, by go_num⟩
      case measure => simp [intOf]; omega
    · have h3 : ¬ (2 : Int) ^ k < n := fun h => hlt (hw.2 h)
      have h4 : k = wid n := by omega
      have H4 := Lib.hid h4
      clear hw h4
      go_wp2
      go_ret
      exact ⟨ret_int (by rw [← H4.out]), rfl⟩

set_option maxHeartbeats 400000 in
theorem cvWidth_any (n : Int) (w : World) (_h1 : 1 ≤ n) (h2 : n ≤ 256) :
    Calls Try.prog 65 #[.int .i64 n] w fun e w' => e = .returned (.int .i64 (wid n)) ∧ w = w' := by
  go_enter Try.func65, Try.ntmps65
  go_wp2
  go_loop [3] (fun v => ∃ k : Nat, k ≤ wid n ∧ v = .int .i64 k) (fun v => 8 - (intOf v).toNat)
  case atStart => exact ⟨0, Nat.zero_le _, rfl⟩
  case round =>
    obtain ⟨k, hk, rfl⟩ := hrel
    have h8 := wid_le n
    have hp := pow_in k (by omega)
    have hw := wid_lt n k h2 hk
    by_cases hlt : k < wid n
    · have h3 : (2 : Int) ^ k < n := hw.1 hlt
      clear hw
      go_wp2
      go_round
      case rel => exact ⟨k + 1, by omega, by go_num⟩
      case measure => simp [intOf]; omega
    · have h3 : ¬ (2 : Int) ^ k < n := fun h => hlt (hw.2 h)
      have h4 : k = wid n := by omega
      have H4 := Lib.hid h4
      clear hw h4
      go_wp2
      go_ret
      exact ⟨ret_int (by rw [← H4.out]), rfl⟩

end Go.Proofs.Ytkbhigdciokfkaa
