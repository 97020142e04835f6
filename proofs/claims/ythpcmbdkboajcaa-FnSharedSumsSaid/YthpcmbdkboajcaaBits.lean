/- Shared bits as a sum; the laws over them. -/
import Derived.Test.YthpcmbdkboajcaaToSum
namespace Go.Proofs.Ythpcmbdkboajcaa
open Go.RowKit

def sh0 (p key i x : Int) : Int := (tsM key i x + (1 - 2 * tsM key i x) * q0I p key i) % p
def sh1 (p key i x : Int) : Int := ((1 - 2 * tsM key i x) * q1I p key i) % p
theorem tsL_sh (p key i x : Int) : tsL p key i x = [sh0 p key i x, sh1 p key i x] := rfl
theorem mod_range (x p : Int) (h : 1 ≤ p) : 0 ≤ x % p ∧ x % p ≤ p - 1 := ⟨Int.emod_nonneg _ (by omega), by have := Int.emod_lt_of_pos x (by omega : 0 < p); omega⟩
theorem sh0_range (p key i x : Int) (h : 1 ≤ p) : 0 ≤ sh0 p key i x ∧ sh0 p key i x ≤ p - 1 := mod_range _ _ h
theorem sh1_range (p key i x : Int) (h : 1 ≤ p) : 0 ≤ sh1 p key i x ∧ sh1 p key i x ≤ p - 1 := mod_range _ _ h
/-- The sums of the shares of the first k bits. -/
def acc0 (p key : Int) (u v : List Int) : Nat → Int
  | 0 => 0
  | k + 1 => (acc0 p key u v k + sh0 p key k (xorI (u.getD k 0) (v.getD k 0)) * 2 ^ k) % p
def acc1 (p key : Int) (u v : List Int) : Nat → Int
  | 0 => 0
  | k + 1 => (acc1 p key u v k + sh1 p key k (xorI (u.getD k 0) (v.getD k 0)) * 2 ^ k) % p
def accL (p key : Int) (u v : List Int) : List Int := [acc0 p key u v u.length, acc1 p key u v u.length]
theorem acc0_range (p key : Int) (u v : List Int) (k : Nat) (h : 1 ≤ p) : 0 ≤ acc0 p key u v k ∧ acc0 p key u v k ≤ p - 1 := by
  cases k with
  | zero => simp [acc0]; omega
  | succ k => exact mod_range _ _ h
theorem acc1_range (p key : Int) (u v : List Int) (k : Nat) (h : 1 ≤ p) : 0 ≤ acc1 p key u v k ∧ acc1 p key u v k ≤ p - 1 := by
  cases k with
  | zero => simp [acc1]; omega
  | succ k => exact mod_range _ _ h
theorem pow16 (k : Nat) (h : k < 16) : 1 ≤ (2 : Int) ^ k ∧ (2 : Int) ^ k ≤ 32768 := by
  rcases (by omega : k = 0 ∨ k = 1 ∨ k = 2 ∨ k = 3 ∨ k = 4 ∨ k = 5 ∨ k = 6 ∨ k = 7 ∨ k = 8 ∨ k = 9 ∨ k = 10 ∨ k = 11 ∨ k = 12 ∨ k = 13 ∨ k = 14 ∨ k = 15) with rfl | rfl | rfl | rfl | rfl | rfl | rfl | rfl | rfl | rfl | rfl | rfl | rfl | rfl | rfl | rfl <;> omega
theorem shift_range (q : Int) (k : Nat) (h0 : 0 ≤ q) (h1 : q ≤ 999) (hk : k < 16) : 0 ≤ q * 2 ^ k ∧ q * 2 ^ k ≤ 999 * 32768 := by
  obtain ⟨a, b⟩ := pow16 k hk
  exact ⟨Int.mul_nonneg h0 (by omega), Int.mul_le_mul h1 b (by omega) (by omega)⟩
def bitsB (u v : List Int) : Bool := decide (u.length = v.length) && decide (u.length ≤ 16) && allB u 0 1 && allB v 0 1
def bsB (p key : Int) (u v : List Int) : Bool := isPr p && inB key 0 1000000000 && bitsB u v
def bsL (p key : Int) (u v : List Int) : List Int := if bsB p key u v then accL p key u v else []
theorem bsL_len (p key : Int) (u v : List Int) : (bsL p key u v).length ≤ 1000000 := by unfold bsL; split <;> simp [accL]
theorem bitsB_true {u v : List Int} (h : bitsB u v = true) : u.length = v.length ∧ u.length ≤ 16 ∧ (∀ x ∈ u, 0 ≤ x ∧ x ≤ 1) ∧ ∀ x ∈ v, 0 ≤ x ∧ x ≤ 1 := by
  simp only [bitsB, Bool.and_eq_true, decide_eq_true_eq, allB_iff] at h
  exact ⟨h.1.1.1, h.1.1.2, h.1.2, h.2⟩
/-- Two pairs' sum. -/
def pairSum (p : Int) (x y : List Int) : List Int := [(x.getD 0 0 + y.getD 0 0) % p, (x.getD 1 0 + y.getD 1 0) % p]
theorem sumK_two (p : Int) (x y : List Int) : sumK p x y 2 = pairSum p x y := rfl
def msB (p key : Int) (u v x : List Int) : Bool := bsB p key u v && pairB p x
def msL (p key : Int) (u v x : List Int) : List Int := if msB p key u v x then pairSum p x (accL p key u v) else []
theorem msL_len (p key : Int) (u v x : List Int) : (msL p key u v x).length ≤ 1000000 := by unfold msL; split <;> simp [pairSum]
theorem pairB_true {p : Int} {l : List Int} (h : pairB p l = true) : ∃ y0 y1, l = [y0, y1] ∧ (0 ≤ y0 ∧ y0 ≤ p - 1) ∧ (0 ≤ y1 ∧ y1 ≤ p - 1) ∧ isPr p = true := by
  simp only [pairB, Bool.and_eq_true, decide_eq_true_eq] at h
  obtain ⟨h1, h2⟩ := h
  obtain ⟨h3, _, _, h4⟩ := elsB_true h1
  rw [allB_iff] at h4
  match l, h2, h4 with
  | [x, y], _, h4 => exact ⟨x, y, rfl, h4 x (by simp), h4 y (by simp), h3⟩
end Go.Proofs.Ythpcmbdkboajcaa
