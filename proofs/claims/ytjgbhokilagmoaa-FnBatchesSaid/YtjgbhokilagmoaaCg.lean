/- Numbers up to a multiple of p; products below a prime. -/
import Derived.Test.YtjgbhokilagmoaaArith
namespace Go.Proofs.Ytjgbhokilagmoaa
open Go.RowKit
/-- a and b are equal up to a multiple of p. -/
def Cg (p a b : Int) : Prop := ∃ k : Int, a = b + p * k
theorem Cg.refl (p a : Int) : Cg p a a := ⟨0, by grind⟩
theorem Cg.of_eq {p a b : Int} (h : a = b) : Cg p a b := h ▸ Cg.refl p a
theorem Cg.symm {p a b : Int} (h : Cg p a b) : Cg p b a := by obtain ⟨k, h⟩ := h; exact ⟨-k, by grind⟩
theorem Cg.trans {p a b c : Int} (h : Cg p a b) (h' : Cg p b c) : Cg p a c := by obtain ⟨k, h⟩ := h; obtain ⟨j, h'⟩ := h'; exact ⟨k + j, by grind⟩
theorem Cg.add {p a b c d : Int} (h : Cg p a b) (h' : Cg p c d) : Cg p (a + c) (b + d) := by obtain ⟨k, h⟩ := h; obtain ⟨j, h'⟩ := h'; exact ⟨k + j, by grind⟩
theorem Cg.sub {p a b c d : Int} (h : Cg p a b) (h' : Cg p c d) : Cg p (a - c) (b - d) := by obtain ⟨k, h⟩ := h; obtain ⟨j, h'⟩ := h'; exact ⟨k - j, by grind⟩
theorem Cg.neg {p a b : Int} (h : Cg p a b) : Cg p (-a) (-b) := by obtain ⟨k, h⟩ := h; exact ⟨-k, by grind⟩
theorem Cg.mul {p a b c d : Int} (h : Cg p a b) (h' : Cg p c d) : Cg p (a * c) (b * d) := by
  obtain ⟨k, h⟩ := h; obtain ⟨j, h'⟩ := h'; exact ⟨k * d + b * j + p * k * j, by rw [h, h']; grind⟩
theorem Cg.emod (p a : Int) : Cg p (a % p) a := ⟨-(a / p), by rw [Int.emod_def]; grind⟩
theorem Cg.eq {p a b : Int} (h : Cg p a b) : a % p = b % p := by obtain ⟨k, h⟩ := h; rw [h, Int.add_mul_emod_self_left]
theorem Cg.of_emod {p a b : Int} (h : a % p = b % p) : Cg p a b := (Cg.emod p a).symm.trans ((Cg.of_eq h).trans (Cg.emod p b))
theorem Cg.zero {p a : Int} (h : Cg p a 0) : a % p = 0 := by have := h.eq; simpa using this
theorem Cg.small {p a : Int} (h : Cg p a 0) (h0 : 0 ≤ a) (h1 : a ≤ p - 1) : a = 0 := by
  have := h.zero
  rwa [Int.emod_eq_of_lt h0 (by omega)] at this
/-- A number between 0 and a prime shares no factor with it. -/
theorem prime_cop {p : Int} (hp : isPr p = true) (x : Int) (h0 : 1 ≤ x) (h1 : x ≤ p - 1) : Int.gcd p x = 1 := by
  obtain ⟨p1, p2⟩ := isPr_range hp
  have hg : 0 < Int.gcd p x := Int.gcd_pos_of_ne_zero_right p (by omega)
  have hgp : ((Int.gcd p x : Nat) : Int) ∣ p := Int.gcd_dvd_left _ _
  have hgx : ((Int.gcd p x : Nat) : Int) ∣ x := Int.gcd_dvd_right _ _
  generalize Int.gcd p x = g at *
  have hgl : (g : Int) ≤ x := Int.le_of_dvd (by omega) hgx
  rcases Nat.lt_or_ge 1 g with hg1 | hg1
  · exfalso
    obtain ⟨q, hq⟩ := hgp
    have hq1 : 1 < q := by
      rcases Int.lt_or_le 1 q with h | h
      · exact h
      · exfalso
        have : (g : Int) * q ≤ g * 1 := Int.mul_le_mul_of_nonneg_left h (by omega)
        omega
    have key : ∀ (d e : Int), 1 < d → 1 < e → p = d * e → d ≤ e → False := by
      intro d e hd he hde hle
      have hdd : d * d ≤ p := by rw [hde]; exact Int.mul_le_mul_of_nonneg_left hle (by omega)
      have hd16 : d < 16 := by
        rcases Int.lt_or_le d 16 with h | h
        · exact h
        · have : (16 : Int) * 16 ≤ d * d := Int.mul_le_mul h h (by omega) (by omega)
          omega
      have hn : ((d.toNat : Nat) : Int) = d := by omega
      have := isPr_hit (p := p) d.toNat (by omega) (by omega) (by rw [hn]; exact hdd) (by rw [hn, hde]; exact Int.mul_emod_right d e)
      rw [this] at hp
      cases hp
    rcases Int.le_total (g : Int) q with h | h
    · exact key g q (by omega) hq1 hq h
    · exact key q g hq1 (by omega) (by rw [hq]; exact Int.mul_comm _ _) h
  · omega
/-- A product of two numbers between 0 and a prime is no multiple of it. -/
theorem prime_mul {p : Int} (hp : isPr p = true) (x y : Int) (h0 : 1 ≤ x) (h1 : x ≤ p - 1) (h2 : 1 ≤ y) (h3 : y ≤ p - 1) : ¬ Cg p (x * y) 0 := by
  intro h
  obtain ⟨k, hk⟩ := h
  have hd : p ∣ x * y := ⟨k, by rw [hk]; grind⟩
  have hc : Int.gcd p x = 1 := prime_cop hp x h0 h1
  have hy : p ∣ y := by
    have h1 : p.natAbs ∣ x.natAbs * y.natAbs := by rw [← Int.natAbs_mul]; exact Int.natAbs_dvd_natAbs.2 hd
    exact Int.natAbs_dvd_natAbs.1 (Nat.Coprime.dvd_of_dvd_mul_left (show Nat.gcd p.natAbs x.natAbs = 1 from hc) h1)
  have := Int.le_of_dvd (by omega) hy
  omega
end Go.Proofs.Ytjgbhokilagmoaa
