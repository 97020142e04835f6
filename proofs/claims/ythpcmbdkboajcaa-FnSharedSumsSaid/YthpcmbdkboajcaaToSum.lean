/- A bit as a sum; the law over it. -/
import Derived.Test.YthpcmbdkboajcaaDouble
import Derived.Test.YthpcmbdkboajcaaSums
namespace Go.Proofs.Ythpcmbdkboajcaa
open Go.RowKit

def r0I (key i : Int) : Int := dbB key i 1
def r1I (key i : Int) : Int := xorI (dbB key i 0) (dbB key i 1)
def q0I (p key i : Int) : Int := dbN p key i
def q1I (p key i : Int) : Int := (dbB key i 0 - dbN p key i) % p
theorem db1_eq (key i : Int) : db1 key i = [r0I key i, r1I key i] := rfl
theorem db2_eq (p key i : Int) : db2 p key i = [q0I p key i, q1I p key i] := rfl
theorem r0I_bit (key i : Int) : r0I key i = 0 ∨ r0I key i = 1 := dbB_bit _ _ _ (by omega)
theorem r1I_bit (key i : Int) : r1I key i = 0 ∨ r1I key i = 1 := xorI_bit (dbB_bit _ _ _ (by omega)) (dbB_bit _ _ _ (by omega))
theorem q0I_range (p key i : Int) (h : 1 ≤ p) : 0 ≤ q0I p key i ∧ q0I p key i ≤ p - 1 := numI_range _ _ h
theorem q1I_range (p key i : Int) (h : 1 ≤ p) : 0 ≤ q1I p key i ∧ q1I p key i ≤ p - 1 := by
  unfold q1I
  exact ⟨Int.emod_nonneg _ (by omega), by have := Int.emod_lt_of_pos (dbB key i 0 - dbN p key i) (by omega : 0 < p); omega⟩
/-- The opened bit, and the pair. -/
def tsM (key i x : Int) : Int := xorI (xorI x (r0I key i)) (r1I key i)
def tsL (p key i x : Int) : List Int := [(tsM key i x + (1 - 2 * tsM key i x) * q0I p key i) % p, ((1 - 2 * tsM key i x) * q1I p key i) % p]
theorem tsM_bit (key i x : Int) (h : x = 0 ∨ x = 1) : tsM key i x = 0 ∨ tsM key i x = 1 := xorI_bit (xorI_bit h (r0I_bit _ _)) (r1I_bit _ _)
theorem sign_range {m q p : Int} (h : m = 0 ∨ m = 1) (h0 : 0 ≤ q) (h1 : q ≤ p) : -p ≤ (1 - 2 * m) * q ∧ (1 - 2 * m) * q ≤ p := by
  rcases h with rfl | rfl
  · simp; omega
  · have : (1 - 2 * 1 : Int) * q = -q := by omega
    rw [this]; omega
def btsB (p key k : Int) (l : List Int) : Bool := cvB p key k && bpairB l
def btsM (p key k : Int) (l : List Int) : Int := if btsB p key k l then tsM key k (xorI (l.getD 0 0) (l.getD 1 0)) else 0
def btsL (p key k : Int) (l : List Int) : List Int := if btsB p key k l then tsL p key k (xorI (l.getD 0 0) (l.getD 1 0)) else []
theorem btsL_len (p key k : Int) (l : List Int) : (btsL p key k l).length ≤ 1000000 := by unfold btsL; split <;> simp [tsL]
theorem bpairB_true {l : List Int} (h : bpairB l = true) : ∃ y0 y1, l = [y0, y1] ∧ (y0 = 0 ∨ y0 = 1) ∧ (y1 = 0 ∨ y1 = 1) := by
  simp only [bpairB, Bool.and_eq_true, decide_eq_true_eq, allB_iff] at h
  obtain ⟨h1, h2⟩ := h
  match l, h1, h2 with
  | [x, y], _, h2 =>
    have := h2 x (by simp)
    have := h2 y (by simp)
    exact ⟨x, y, rfl, by omega, by omega⟩
end Go.Proofs.Ythpcmbdkboajcaa
