/- Chances: what is worst, best, and how sets are counted, in plain numbers. -/
import Derived.Test.YtnhphmhckbjnnaaWorst
import Derived.Test.YtnhphmhckbjnnaaChoose2
namespace Go.Proofs.Ytnhphmhckbjnnaa
open Go.RowKit

theorem fr_trans {a b c d e f : Int} (hb : 1 ≤ b) (hd : 1 ≤ d) (hf : 1 ≤ f) (h1 : a * d ≤ c * b) (h2 : c * f ≤ e * d) : a * f ≤ e * b := by
  have g1 := Int.mul_le_mul_of_nonneg_right h1 (show 0 ≤ f by omega)
  have g2 := Int.mul_le_mul_of_nonneg_right h2 (show 0 ≤ b by omega)
  have e1 : a * d * f = a * f * d := by grind
  have e2 : c * b * f = c * f * b := by grind
  have e3 : e * d * b = e * b * d := by grind
  exact Int.le_of_mul_le_mul_right (by omega : a * f * d ≤ e * b * d) (by omega)
theorem fr_trans_lt {a b c d e f : Int} (hb : 1 ≤ b) (hd : 1 ≤ d) (hf : 1 ≤ f) (h1 : a * d ≤ c * b) (h2 : c * f < e * d) : a * f < e * b := by
  have g1 := Int.mul_le_mul_of_nonneg_right h1 (show 0 ≤ f by omega)
  have g2 := Int.mul_lt_mul_of_pos_right h2 (show 0 < b by omega)
  have e1 : a * d * f = a * f * d := by grind
  have e2 : c * b * f = c * f * b := by grind
  have e3 : e * d * b = e * b * d := by grind
  exact Int.lt_of_mul_lt_mul_right (by omega : a * f * d < e * b * d) (by omega)
theorem sgnI_pos_iff (x : Int) : 0 < sgnI x ↔ 0 < x := by unfold sgnI; repeat' split <;> omega
theorem sgnI_neg_iff (x : Int) : sgnI x < 0 ↔ x < 0 := by unfold sgnI; repeat' split <;> omega
/-- The worst of those below b is worst, and the first such. -/
theorem wst_max (n k : Int) (h1 : 1 ≤ n) (h2 : n ≤ 40) (h5 : 0 ≤ k) (h6 : k ≤ n - 1) : ∀ b : Nat, (b : Int) ≤ n + 1 → ∀ j : Nat, j < b →
    majN n j k * (wst n k b).2.2 ≤ (wst n k b).2.1 * majD n j k ∧ (j < (wst n k b).1 → majN n j k * (wst n k b).2.2 < (wst n k b).2.1 * majD n j k)
  | 0, _, j, hj => absurd hj (by omega)
  | b + 1, hb, j, hj => by
    have ih := wst_max n k h1 h2 h5 h6 b (by omega)
    have rg := wst_range n k h1 h2 h5 h6 b (by omega)
    have mj := majD_range n j k h1 h2 (by omega) (by omega) h5 h6
    have mb' := majD_range n b k h1 h2 (by omega) (by omega) h5 h6
    rw [wst]
    split
    · rename_i hc
      by_cases e : j = b
      · subst e
        exact ⟨Int.le_refl _, fun h => absurd h (Nat.lt_irrefl _)⟩
      · have hjb : j < b := by omega
        have hlt : (wst n k b).2.1 * majD n b k < majN n b k * (wst n k b).2.2 := by
          rcases hc with hc | hc
          · omega
          · have := (sgnI_pos_iff _).1 hc; omega
        have := fr_trans_lt mj.1 rg.2.2.2.1 mb'.1 (ih j hjb).1 hlt
        exact ⟨Int.le_of_lt this, fun _ => this⟩
    · rename_i hc
      by_cases e : j = b
      · subst e
        have h0 : ¬ 0 < majN n j k * (wst n k j).2.2 - (wst n k j).2.1 * majD n j k := fun h => hc (Or.inr ((sgnI_pos_iff _).2 h))
        exact ⟨by omega, fun h => by omega⟩
      · exact ih j (by omega)
theorem worst_max {n k j : Int} (h1 : 1 ≤ n) (h2 : n ≤ 40) (h5 : 0 ≤ k) (h6 : k ≤ n - 1) (hj : 0 ≤ j) (hj2 : j ≤ n) :
    sgnI (majN n j k * worstD n k - worstN n k * majD n j k) ≤ 0 ∧ (sgnI (majN n j k * worstD n k - worstN n k * majD n j k) = 0 → worstI n k ≤ j) := by
  obtain ⟨j, rfl⟩ := Int.eq_ofNat_of_zero_le hj
  have h := wst_max n k h1 h2 h5 h6 (n.toNat + 1) (by omega) j (by omega)
  unfold worstD worstN worstI
  constructor
  · unfold sgnI; repeat' split <;> omega
  · intro h0
    apply Int.ofNat_le.2
    apply Nat.le_of_not_lt
    intro hlt
    have := h.2 hlt
    rw [show sgnI _ = -1 from by unfold sgnI; rw [if_neg (by omega), if_pos (by omega)]] at h0
    omega
/-- The best of those below t is best, and the first such. -/
theorem bst_min (n : Int) (h1 : 1 ≤ n) (h2 : n ≤ 40) : ∀ t : Nat, (t : Int) ≤ n → ∀ j : Nat, j < t →
    worstN n (bst n t) * worstD n j ≤ worstN n j * worstD n (bst n t) ∧ (j < bst n t → worstN n (bst n t) * worstD n j < worstN n j * worstD n (bst n t))
  | 0, _, j, hj => absurd hj (by omega)
  | t + 1, ht, j, hj => by
    have ih := bst_min n h1 h2 t (by omega)
    have hle := bst_le n t
    have wt := worst_range n t h1 h2 (by omega) (by omega)
    have wj := worst_range n j h1 h2 (by omega) (by omega)
    rw [bst]
    split
    · rename_i hc
      by_cases e : j = t
      · subst e
        exact ⟨Int.le_refl _, fun h => absurd h (Nat.lt_irrefl _)⟩
      · have wb := worst_range n (bst n t) h1 h2 (by omega) (by omega)
        have h3 := (sgnI_neg_iff _).1 hc.2
        have h4 := (ih j (by omega)).1
        have := fr_trans_lt (a := -worstN n j) (b := worstD n j) (c := -worstN n (bst n t)) (d := worstD n (bst n t)) (e := -worstN n t) (f := worstD n t) wj.2.2.1 wb.2.2.1 wt.2.2.1 (by rw [Int.neg_mul, Int.neg_mul]; omega) (by rw [Int.neg_mul, Int.neg_mul]; omega)
        rw [Int.neg_mul, Int.neg_mul] at this
        exact ⟨by omega, fun _ => by omega⟩
    · rename_i hc
      by_cases e : j = t
      · subst e
        by_cases h0 : j = 0
        · subst h0
          have : bst n 0 = 0 := rfl
          rw [this]
          exact ⟨Int.le_refl _, fun h => absurd h (Nat.lt_irrefl _)⟩
        · have h3 : ¬ worstN n j * worstD n (bst n j) - worstN n (bst n j) * worstD n j < 0 := fun h => hc ⟨h0, (sgnI_neg_iff _).2 h⟩
          exact ⟨by omega, fun h => by omega⟩
      · exact ih j (by omega)
theorem best_min {n k : Int} (h1 : 1 ≤ n) (h2 : n ≤ 40) (hk : 0 ≤ k) (hk2 : k ≤ n - 1) :
    sgnI (worstN n (bestI n) * worstD n k - worstN n k * worstD n (bestI n)) ≤ 0 ∧ (sgnI (worstN n (bestI n) * worstD n k - worstN n k * worstD n (bestI n)) = 0 → bestI n ≤ k) := by
  obtain ⟨k, rfl⟩ := Int.eq_ofNat_of_zero_le hk
  have h := bst_min n h1 h2 n.toNat (by omega) k (by omega)
  unfold bestI
  constructor
  · unfold sgnI; repeat' split <;> omega
  · intro h0
    apply Int.ofNat_le.2
    apply Nat.le_of_not_lt
    intro hlt
    have := h.2 hlt
    rw [show sgnI _ = -1 from by unfold sgnI; rw [if_neg (by omega), if_pos (by omega)]] at h0
    omega
theorem mb_pascal : ∀ n, n < 40 → ∀ k, k < 41 → mb (n + 1) (k + 1) = mb n (k + 1) + mb n k := by decide +kernel
theorem mb_big : ∀ n, n < 41 → ∀ k, k < 42 → n < k → mb n k = 0 := by decide +kernel
theorem setsI_nat (n k : Nat) (hn : n < 41) (hk : k < 42) : setsI n k = (mb n k : Nat) := by
  unfold setsI
  split
  · rename_i h
    rw [mb_big n hn k hk (by omega)]; rfl
  · simp
theorem setsI_pascal {n k : Int} (h1 : 1 ≤ n) (h2 : n ≤ 40) : setsI (n - 1) k + setsI (n - 1) (k - 1) = setsI n k := by
  by_cases hk : k < 0
  · unfold setsI
    rw [if_pos (Or.inl hk), if_pos (Or.inl (by omega)), if_pos (Or.inl hk)]; rfl
  · by_cases hn : n < k
    · unfold setsI
      rw [if_pos (Or.inr (by omega)), if_pos (Or.inr (by omega)), if_pos (Or.inr hn)]; rfl
    · obtain ⟨m, rfl⟩ : ∃ m : Nat, n = m + 1 := ⟨(n - 1).toNat, by omega⟩
      obtain ⟨k, rfl⟩ := Int.eq_ofNat_of_zero_le (by omega : 0 ≤ k)
      have e : ((m : Int) + 1 - 1) = (m : Nat) := by omega
      rw [e]
      rw [show ((m : Int) + 1) = ((m + 1 : Nat) : Int) from rfl, setsI_nat m k (by omega) (by omega), setsI_nat (m + 1) k (by omega) (by omega)]
      cases k with
      | zero => unfold setsI; rw [if_pos (Or.inl (by omega))]; rfl
      | succ k =>
        have e : (((k + 1 : Nat) : Int) - 1) = (k : Nat) := by omega
        rw [e, setsI_nat m k (by omega) (by omega), mb_pascal m (by omega) k (by omega)]
        omega
theorem setsI_nn {n k : Int} : 0 ≤ setsI n k := by unfold setsI; split <;> omega
theorem setsI_mono {n k : Int} (h1 : 1 ≤ n) (h2 : n ≤ 40) : setsI (n - 1) k ≤ setsI n k := by
  have := setsI_pascal (k := k) h1 h2
  have := setsI_nn (n := n - 1) (k := k - 1)
  omega
theorem setsI_mono2 {n k : Int} (h2 : n ≤ 40) : ∀ b : Nat, (b : Int) ≤ n → setsI (n - b) k ≤ setsI n k
  | 0, _ => by simp
  | b + 1, hb => by
    have i := setsI_mono2 (k := k) h2 b (by omega)
    have j := setsI_mono (n := n - b) (k := k) (by omega) (by omega)
    rw [show n - ((b + 1 : Nat) : Int) = n - b - 1 by omega]
    omega
theorem miss_le {n b k : Int} (h2 : n ≤ 40) (h3 : 0 ≤ b) (h4 : b ≤ n) : missN n b k ≤ missD n b k := by
  obtain ⟨b, rfl⟩ := Int.eq_ofNat_of_zero_le h3
  unfold missN missD
  have hm := setsI_mono2 (k := k) h2 b h4
  rcases Nat.eq_zero_or_pos (Int.gcd (setsI (n - b) k) (setsI n k)) with h | h
  · rw [h]; simp
  · exact Int.ediv_le_ediv (by omega) hm
theorem miss_step {n b k : Int} (h1 : 1 ≤ n) (h2 : n ≤ 40) (h3 : 0 ≤ b) (h4 : b < n) (h5 : 0 ≤ k) (h6 : k ≤ n - 1) : sgnI (missN n (b + 1) k * missD n b k - missN n b k * missD n (b + 1) k) ≤ 0 := by
  have hS := setsI_pos n k h2 h5 (by omega)
  have hm := setsI_mono (n := n - b) (k := k) (by omega) (by omega)
  rw [show n - b - 1 = n - (b + 1) by omega] at hm
  have n1 := setsI_nn (n := n - (b + 1)) (k := k)
  have n2 := setsI_nn (n := n - b) (k := k)
  unfold missN missD
  generalize setsI (n - (b + 1)) k = s1 at *
  generalize setsI (n - b) k = s2 at *
  generalize setsI n k = S at *
  have g1 : 0 < (Int.gcd s1 S : Int) := by have := Int.gcd_pos_of_ne_zero_right s1 (show S ≠ 0 by omega); omega
  have g2 : 0 < (Int.gcd s2 S : Int) := by have := Int.gcd_pos_of_ne_zero_right s2 (show S ≠ 0 by omega); omega
  have a1 : s1 / (Int.gcd s1 S : Int) * (Int.gcd s1 S : Int) = s1 := Int.ediv_mul_cancel (Int.gcd_dvd_left ..)
  have a2 : S / (Int.gcd s1 S : Int) * (Int.gcd s1 S : Int) = S := Int.ediv_mul_cancel (Int.gcd_dvd_right ..)
  have a3 : s2 / (Int.gcd s2 S : Int) * (Int.gcd s2 S : Int) = s2 := Int.ediv_mul_cancel (Int.gcd_dvd_left ..)
  have a4 : S / (Int.gcd s2 S : Int) * (Int.gcd s2 S : Int) = S := Int.ediv_mul_cancel (Int.gcd_dvd_right ..)
  generalize s1 / (Int.gcd s1 S : Int) = N1 at *
  generalize S / (Int.gcd s1 S : Int) = D1 at *
  generalize s2 / (Int.gcd s2 S : Int) = N2 at *
  generalize S / (Int.gcd s2 S : Int) = D2 at *
  generalize (Int.gcd s1 S : Int) = G1 at *
  generalize (Int.gcd s2 S : Int) = G2 at *
  have hp : 0 < G1 * G2 := Int.mul_pos g1 g2
  have e1 : N1 * D2 * (G1 * G2) = s1 * S := by rw [← a1, ← a4]; grind
  have e2 : N2 * D1 * (G1 * G2) = s2 * S := by rw [← a3, ← a2]; grind
  have hh := Int.mul_le_mul_of_nonneg_right hm (show 0 ≤ S by omega)
  have : N1 * D2 ≤ N2 * D1 := Int.le_of_mul_le_mul_right (by omega : N1 * D2 * (G1 * G2) ≤ N2 * D1 * (G1 * G2)) hp
  unfold sgnI
  repeat' split <;> omega
theorem cmp_anti (a b c d : Int) : cmpB c d a b = cmpB a b c d ∧ cmpV c d a b = -cmpV a b c d := by
  constructor
  · unfold cmpB
    rw [decide_eq_decide]
    omega
  · unfold cmpV
    by_cases h : 0 ≤ a ∧ a ≤ 1000000000000 ∧ 0 ≤ c ∧ c ≤ 1000000000000 ∧ 1 ≤ b ∧ b ≤ 1000000000000 ∧ 1 ≤ d ∧ d ≤ 1000000000000
    · rw [if_pos h, if_pos (by omega), neg_sgnI]
      congr 1
      omega
    · rw [if_neg h, if_neg (by omega)]; rfl
end Go.Proofs.Ytnhphmhckbjnnaa
