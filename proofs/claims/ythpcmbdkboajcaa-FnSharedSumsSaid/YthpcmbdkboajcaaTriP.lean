/- Products of pairs are pairs of products: plainly. -/
import Derived.Test.YthpcmbdkboajcaaMulSh
import Derived.Test.YthpcmbdkboajcaaGate
namespace Go.Proofs.Ythpcmbdkboajcaa
open Go.RowKit
theorem mod_form (x p : Int) : ∃ q : Int, x % p = x - p * q := ⟨x / p, by have := Int.emod_add_mul_ediv x p; omega⟩
/-- The sum of the two shares of a product. -/
theorem share_sum (p a0 b0 c0 a1 b1 c1 D E x y : Int) (hfit : ((a0 + a1) * (b0 + b1) - c0 - c1) % p = 0) (hD : D = (x - a0 - a1) % p) (hE : E = (y - b0 - b1) % p) :
    (shareI p 0 a0 b0 c0 D E + shareI p 1 a1 b1 c1 D E) % p = (x * y) % p := by
  unfold shareI
  rw [if_pos rfl, if_neg (by decide), ← Int.add_emod]
  obtain ⟨q1, h1⟩ := mod_form (x - a0 - a1) p
  obtain ⟨q2, h2⟩ := mod_form (y - b0 - b1) p
  obtain ⟨q3, h3⟩ := mod_form ((a0 + a1) * (b0 + b1) - c0 - c1) p
  rw [hfit] at h3
  rw [h1] at hD
  rw [h2] at hE
  have e : c0 + D * b0 + E * a0 + D * E + (c1 + D * b1 + E * a1 + 0) = x * y + p * (p * q1 * q2 - x * q2 - q1 * y - q3) := by
    subst hD; subst hE
    grind
  rw [e, Int.add_mul_emod_self_left]
theorem shareI_rng (p b s0 s1 s2 d e : Int) (h : 2 ≤ p) : 0 ≤ shareI p b s0 s1 s2 d e ∧ shareI p b s0 s1 s2 d e ≤ p - 1 := mod_rng _ _ (by omega)
/-- What a product of pairs keeps. -/
theorem ms_law {p : Int} {t x y : List Int} (h : msrB p t x y = true) : ∃ t0 t1 t2 t3 t4 t5 x0 x1 y0 y1 z0 z1 d e, t = [t0, t1, t2, t3, t4, t5] ∧ x = [x0, x1] ∧ y = [y0, y1] ∧ msrL p t x y = [z0, z1] ∧ msrO p t x y = [d, e] ∧
    (2 ≤ p ∧ p ≤ 251) ∧ (0 ≤ t0 ∧ t0 ≤ p - 1) ∧ (0 ≤ t1 ∧ t1 ≤ p - 1) ∧ (0 ≤ t3 ∧ t3 ≤ p - 1) ∧ (0 ≤ t4 ∧ t4 ≤ p - 1) ∧ (0 ≤ x0 ∧ x0 ≤ p - 1) ∧ (0 ≤ x1 ∧ x1 ≤ p - 1) ∧ (0 ≤ y0 ∧ y0 ≤ p - 1) ∧ (0 ≤ y1 ∧ y1 ≤ p - 1) ∧ (0 ≤ z0 ∧ z0 ≤ p - 1) ∧ (0 ≤ z1 ∧ z1 ≤ p - 1) ∧
    (z0 + z1) % p = ((x0 + x1) * (y0 + y1)) % p ∧ d = (x0 + x1 - t0 - t3) % p ∧ e = (y0 + y1 - t1 - t4) % p := by
  have eL : msrL p t x y = _ := if_pos h
  have eO : msrO p t x y = _ := if_pos h
  unfold msrB at h
  simp only [Bool.and_eq_true] at h
  obtain ⟨⟨⟨h1, h2⟩, h3⟩, h4⟩ := h
  obtain ⟨t0, t1, t2, t3, t4, t5, rfl, r0, r1, r2, r3, r4, r5, hp⟩ := sixB_true h1
  obtain ⟨x0, x1, rfl, rx0, rx1, _⟩ := pairB_true h3
  obtain ⟨y0, y1, rfl, ry0, ry1, _⟩ := pairB_true h4
  have hr := isPr_range hp
  have hfit : ((t0 + t3) * (t1 + t4) - t2 - t5) % p = 0 := by simpa [fitsB, fitB, fitN] using h2
  exact ⟨t0, t1, t2, t3, t4, t5, x0, x1, y0, y1, _, _, _, _, rfl, rfl, rfl, eL, eO, hr, r0, r1, r3, r4, rx0, rx1, ry0, ry1, shareI_rng _ _ _ _ _ _ _ hr.1, shareI_rng _ _ _ _ _ _ _ hr.1,
    share_sum p t0 t1 t2 t3 t4 t5 _ _ (x0 + x1) (y0 + y1) hfit rfl rfl, rfl, rfl⟩
/-- A gate's triple fits. -/
theorem gt_fits {p key k : Int} (h : gtB p key k = true) : sixB p (gtO p key k) = true ∧ fitsB p (gtO p key k) = true := by
  have e : gtO p key k = gtL p key k := if_pos h
  rw [e]
  unfold gtB at h
  simp only [Bool.and_eq_true] at h
  have hp := h.1.1
  have hr := isPr_range hp
  have g := fun i => numI_range [key, k, i, 71] p (by omega)
  refine ⟨?_, ?_⟩
  · simp only [sixB, elsB, hp, Bool.true_and, Bool.and_eq_true, allB_iff]
    refine ⟨?_, rfl⟩
    intro x hx
    simp only [gtL, List.mem_cons, List.not_mem_nil, or_false] at hx
    rcases hx with rfl | rfl | rfl | rfl | rfl | rfl
    · exact g 0
    · exact g 1
    · exact g 2
    · exact g 3
    · exact g 4
    · exact mod_rng _ _ (by omega)
  · simp only [fitsB, fitB, fitN, gtL, List.getD_cons_zero, List.getD_cons_succ, beq_iff_eq]
    unfold gtZ
    generalize (gtN p key k 0 + gtN p key k 3) * (gtN p key k 1 + gtN p key k 4) - gtN p key k 2 = Y
    obtain ⟨q, hq⟩ := mod_form Y p
    rw [hq, show Y - (Y - p * q) = p * q by omega, Int.mul_emod_right]
end Go.Proofs.Ythpcmbdkboajcaa
