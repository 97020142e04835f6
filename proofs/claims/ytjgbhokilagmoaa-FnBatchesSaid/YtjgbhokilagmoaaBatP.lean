/- Batches of tags: the plain law (which pairs of delta and weights miss changes, and how many). -/
import Derived.Test.YtjgbhokilagmoaaCg
import Derived.Test.YtjgbhokilagmoaaMisc1
namespace Go.Proofs.Ytjgbhokilagmoaa
open Go.RowKit
/-- What is left of a number behind k digits. -/
def btR (p r : Int) : Nat → Int
  | 0 => r
  | k + 1 => btR p r k / p
/-- The sum of k numbers, weighted by digits. -/
def btV (p r : Int) (c : List Int) : Nat → Int
  | 0 => 0
  | k + 1 => btV p r c k + btR p r k % p * c.getD k 0
/-- The sum of k differences, weighted by digits. -/
def btS (p r d : Int) (c t : List Int) : Nat → Int
  | 0 => 0
  | k + 1 => btS p r d c t k + btR p r k % p * ((c.getD k 0 * d - t.getD k 0) % p)
theorem btS_cg (p r d : Int) (c t : List Int) (k : Nat) : Cg p (btV p r c k * d - btV p r t k) (btS p r d c t k) := by
  induction k with
  | zero => exact Cg.of_eq (by simp [btV, btS])
  | succ k ih =>
    unfold btV btS
    have h := ih.add ((Cg.refl p (btR p r k % p)).mul (Cg.emod p (c.getD k 0 * d - t.getD k 0)).symm)
    refine Cg.trans (Cg.of_eq ?_) h
    generalize btR p r k % p = x
    generalize btV p r c k = y
    generalize btV p r t k = z
    generalize c.getD k 0 = a
    generalize t.getD k 0 = b
    grind
/-- How many numbers below n pass. -/
def cntB (f : Nat → Bool) : Nat → Nat
  | 0 => 0
  | k + 1 => cntB f k + if f k then 1 else 0
theorem cntB_le (f : Nat → Bool) (n : Nat) : cntB f n ≤ n := by
  induction n with
  | zero => exact Nat.le_refl _
  | succ n ih => simp only [cntB]; split <;> omega
theorem cntB_add (f : Nat → Bool) (a b : Nat) : cntB f (a + b) = cntB f a + cntB (fun i => f (a + i)) b := by
  induction b with
  | zero => rfl
  | succ b ih => rw [← Nat.add_assoc]; simp only [cntB]; rw [ih]; omega
theorem cntB_congr {f g : Nat → Bool} (n : Nat) (h : ∀ i, i < n → f i = g i) : cntB f n = cntB g n := by
  induction n with
  | zero => rfl
  | succ n ih => simp only [cntB]; rw [ih (fun i hi => h i (by omega)), h n (by omega)]
theorem cntB_true (n : Nat) : cntB (fun _ => true) n = n := by
  induction n with
  | zero => rfl
  | succ n ih => simp only [cntB]; rw [ih]; rfl
/-- Whether the pair with a number misses. -/
def bmT (p : Int) (c t : List Int) (n : Nat) (code : Nat) : Bool := decide (btS p ((code : Int) / p) ((code : Int) % p) c t n % p = 0)
theorem bmT_one {p : Int} (hp : isPr p = true) (c t : List Int) (q d : Nat) (hq : (q : Int) < p) (hd : (d : Int) < p) :
    bmT p c t 1 (q * p.toNat + d) = (decide (q = 0) || decide ((c.getD 0 0 * d - t.getD 0 0) % p = 0)) := by
  have p1 := (isPr_range hp).1
  have e0 : ((q * p.toNat + d : Nat) : Int) = d + p * q := by
    have : ((p.toNat : Nat) : Int) = p := by omega
    rw [Int.natCast_add, Int.natCast_mul, this, Int.mul_comm]; omega
  have e1 : ((q * p.toNat + d : Nat) : Int) / p = q := by
    rw [e0, Int.add_mul_ediv_left _ _ (by omega : p ≠ 0), Int.ediv_eq_zero_of_lt (by omega) hd]; omega
  have e2 : ((q * p.toNat + d : Nat) : Int) % p = d := by
    rw [e0, Int.add_mul_emod_self_left, Int.emod_eq_of_lt (by omega) hd]
  have e3 : btS p (q : Int) (d : Int) c t 1 = q * ((c.getD 0 0 * d - t.getD 0 0) % p) := by
    simp only [btS, btR]
    rw [Int.zero_add, Int.emod_eq_of_lt (by omega : (0 : Int) ≤ q) hq]
  have e4 : bmT p c t 1 (q * p.toNat + d) = decide (q * ((c.getD 0 0 * d - t.getD 0 0) % p) % p = 0) := by
    unfold bmT
    simp only [e1, e2, e3]
  rw [e4]
  clear e0 e1 e2 e3 e4
  have x0 := Int.emod_nonneg (c.getD 0 0 * d - t.getD 0 0) (by omega : p ≠ 0)
  have x1 := Int.emod_lt_of_pos (c.getD 0 0 * d - t.getD 0 0) (by omega : 0 < p)
  generalize (c.getD 0 0 * d - t.getD 0 0) % p = x at *
  by_cases h : q = 0
  · subst h; simp
  · by_cases hx : x = 0
    · subst hx; simp
    · have := prime_mul hp (q : Int) x (by omega) (by omega) (by omega) (by omega)
      have hz : ¬ ((q : Int) * x % p = 0) := fun e => this (Cg.of_emod (by rw [e]; simp))
      simp [h, hx, hz]
theorem cnt_hit {p : Int} (hp : 2 ≤ p) (c t : Int) (h0 : 0 ≤ t) (h1 : t ≤ p - 1) (n : Nat) (hn : 1 ≤ n) :
    cntB (fun d => decide ((c * d - t) % p = 0)) n = missC p c t n + if t = 0 then 1 else 0 := by
  induction n with
  | zero => omega
  | succ n ih =>
    have e : decide ((c * (n : Int) - t) % p = 0) = decide (c * (n : Int) % p = t) := by
      rw [decide_eq_decide]; exact mod_hit hp h0 h1
    simp only [cntB, missC, e]
    by_cases hz : n = 0
    · subst hz
      simp only [cntB, missC]
      by_cases ht : t = 0
      · subst ht; simp
      · have : ¬ (0 : Int) = t := fun e => ht e.symm
        simp [ht, this]
    · rw [ih (by omega)]
      have h1n : 1 ≤ n := by omega
      simp only [h1n, true_and, decide_eq_true_eq]
      omega
theorem bm_rows {p : Int} (hp : isPr p = true) (c t : List Int) (q : Nat) (hq : (q : Int) + 1 ≤ p) :
    cntB (bmT p c t 1) ((q + 1) * p.toNat) = p.toNat + q * cntB (fun d => decide ((c.getD 0 0 * d - t.getD 0 0) % p = 0)) p.toNat := by
  have p1 := (isPr_range hp).1
  induction q with
  | zero =>
    rw [Nat.zero_add, Nat.one_mul, Nat.zero_mul, Nat.add_zero]
    rw [cntB_congr p.toNat (g := fun _ => true) (fun i hi => ?_), cntB_true]
    have := bmT_one hp c t 0 i (by omega) (by omega)
    rw [Nat.zero_mul, Nat.zero_add] at this
    rw [this]; simp
  | succ q ih =>
    have e := cntB_congr (f := fun i => bmT p c t 1 ((q + 1) * p.toNat + i)) (g := fun d => decide ((c.getD 0 0 * d - t.getD 0 0) % p = 0)) p.toNat (fun i hi => by
      have h := bmT_one hp c t (q + 1) i (by omega) (by omega)
      rw [h]
      have : ¬ (q + 1 = 0) := by omega
      simp)
    have h1 : (q + 1 + 1) * p.toNat = (q + 1) * p.toNat + p.toNat := Nat.succ_mul _ _
    rw [h1, cntB_add, ih (by omega), e, Nat.succ_mul q]
    omega
/-- One change: the weight 0 misses all, each other weight misses for the deltas that keep the tag. -/
theorem bm_one {p : Int} (hp : isPr p = true) (c t : List Int) (h0 : 0 ≤ t.getD 0 0) (h1 : t.getD 0 0 ≤ p - 1) :
    (cntB (bmT p c t 1) (p * p).toNat : Int) = p + (p - 1) * ((missC p (c.getD 0 0) (t.getD 0 0) p.toNat : Int) + if t.getD 0 0 = 0 then 1 else 0) := by
  have p1 := (isPr_range hp).1
  obtain ⟨m, rfl⟩ : ∃ m : Nat, p = m + 1 := ⟨(p - 1).toNat, by omega⟩
  have e : ((m : Int) + 1).toNat = m + 1 := by omega
  have e2 : (((m : Int) + 1) * ((m : Int) + 1)).toNat = (m + 1) * (m + 1) := by
    have : ((m : Int) + 1) * ((m : Int) + 1) = (((m + 1) * (m + 1) : Nat) : Int) := by simp
    rw [this]; rfl
  have := bm_rows hp c t m (by omega)
  rw [e] at this
  rw [e2, this, cnt_hit p1 _ _ h0 h1 _ (by omega), e]
  split <;> simp <;> grind
end Go.Proofs.Ytjgbhokilagmoaa
