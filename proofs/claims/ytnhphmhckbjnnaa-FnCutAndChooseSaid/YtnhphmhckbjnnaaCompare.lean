/- Comparing fractions: by 128 bits, and by continued fractions; both give the sign of the cross products. -/
import Derived.Test.YtnhphmhckbjnnaaInts
import Derived.Lib.Mul64
import Derived.Laws.BitsAllLaws
import Derived.Deep.QuietTactic
import Derived.BigQuiet
namespace Go.Proofs.Ytnhphmhckbjnnaa
open Go.RowKit

def sgnI (x : Int) : Int := if 0 < x then 1 else if x < 0 then -1 else 0
theorem sgnI_pos {x : Int} (h : 0 < x) : sgnI x = 1 := by unfold sgnI; rw [if_pos h]
theorem sgnI_neg {x : Int} (h : x < 0) : sgnI x = -1 := by unfold sgnI; rw [if_neg (by omega), if_pos h]
theorem sgnI_zero : sgnI 0 = 0 := by decide
theorem neg_sgnI (x : Int) : -sgnI x = sgnI (-x) := by unfold sgnI; repeat' split <;> omega

set_option maxHeartbeats 400000 in
theorem l1Sign_any (x : Int) (w : World) : Calls Try.prog 76 #[.int .i64 x] w fun e w' => e = .returned (.int .i64 (sgnI x)) ∧ ∃ m, w' = w.drewN m := by
  by_cases h1 : 0 < x
  · rw [sgnI_pos h1]
    go_enter Try.func76, Try.ntmps76
    go_wp2
    go_ret
    exact ⟨rfl, 0, rfl⟩
  · by_cases h2 : x < 0
    · rw [sgnI_neg h2]
      go_enter Try.func76, Try.ntmps76
      go_wp2
      go_ret
      exact ⟨rfl, 0, rfl⟩
    · obtain rfl : x = 0 := by omega
      rw [sgnI_zero]
      go_enter Try.func76, Try.ntmps76
      go_wp2
      go_ret
      exact ⟨rfl, 0, rfl⟩
/-- Fractions whose whole parts differ. -/
theorem cross_lt {a b c d : Int} (hb : 1 ≤ b) (hd : 1 ≤ d) (h : a / b < c / d) : a * d - c * b < 0 := by
  have e1 := Int.mul_ediv_add_emod a b
  have e2 := Int.mul_ediv_add_emod c d
  have r1 := Int.emod_lt_of_pos a (by omega : 0 < b)
  have r2 := Int.emod_nonneg c (by omega : d ≠ 0)
  generalize a / b = q1 at *
  generalize c / d = q2 at *
  generalize a % b = r at *
  generalize c % d = s at *
  have k1 : a < b * q2 := by
    have : b * (q1 + 1) ≤ b * q2 := Int.mul_le_mul_of_nonneg_left (by omega) (by omega)
    have : b * (q1 + 1) = b * q1 + b := by rw [Int.mul_add, Int.mul_one]
    omega
  have k2 : d * q2 ≤ c := by omega
  have k3 : a * d < b * q2 * d := Int.mul_lt_mul_of_pos_right k1 (by omega)
  have k4 : d * q2 * b ≤ c * b := Int.mul_le_mul_of_nonneg_right k2 (by omega)
  have k5 : b * q2 * d = d * q2 * b := by rw [Int.mul_comm b q2, Int.mul_comm d q2, Int.mul_assoc, Int.mul_assoc, Int.mul_comm b d]
  omega
theorem cross_eq {a b c d : Int} (h : a / b = c / d) : a * d - c * b = (a % b) * d - (c % d) * b := by
  have e1 := Int.mul_ediv_add_emod a b
  have e2 := Int.mul_ediv_add_emod c d
  generalize a / b = q1 at *
  generalize c / d = q2 at *
  generalize a % b = r at *
  generalize c % d = s at *
  subst h
  rw [← e1, ← e2, Int.add_mul, Int.add_mul]
  have : b * q1 * d = d * q1 * b := by rw [Int.mul_comm b q1, Int.mul_comm d q1, Int.mul_assoc, Int.mul_assoc, Int.mul_comm b d]
  omega
theorem sgn_cross_lt {a b c d : Int} (hb : 1 ≤ b) (hd : 1 ≤ d) (h : a / b < c / d) : sgnI (a / b - c / d) = sgnI (a * d - c * b) := by
  rw [sgnI_neg (by omega), sgnI_neg (cross_lt hb hd h)]
theorem sgn_cross_gt {a b c d : Int} (hb : 1 ≤ b) (hd : 1 ≤ d) (h : c / d < a / b) : sgnI (a / b - c / d) = sgnI (a * d - c * b) := by
  have := cross_lt hd hb h
  rw [sgnI_pos (by omega), sgnI_pos (by omega)]
theorem sgn_cross_ne {a b c d : Int} (hb : 1 ≤ b) (hd : 1 ≤ d) (h : a / b ≠ c / d) : sgnI (a / b - c / d) = sgnI (a * d - c * b) := by
  rcases Int.lt_or_gt_of_ne h with h | h
  · exact sgn_cross_lt hb hd h
  · exact sgn_cross_gt hb hd h
theorem sgn_cross_zero {a b c d : Int} (hb : 1 ≤ b) (hd : 1 ≤ d) (h : a / b = c / d) (h0 : a % b = 0 ∨ c % d = 0) : sgnI (a % b) - sgnI (c % d) = sgnI (a * d - c * b) := by
  rw [cross_eq h]
  have r1 := Int.emod_nonneg a (by omega : b ≠ 0)
  have r2 := Int.emod_nonneg c (by omega : d ≠ 0)
  generalize a % b = r at *
  generalize c % d = s at *
  rcases h0 with rfl | rfl
  · by_cases hs : s = 0
    · subst hs; simp [sgnI]
    · have : 0 < s * b := Int.mul_pos (by omega) (by omega)
      rw [sgnI_zero, sgnI_pos (x := s) (by omega), sgnI_neg (by omega)]; rfl
  · by_cases hs : r = 0
    · subst hs; simp [sgnI]
    · have : 0 < r * d := Int.mul_pos (by omega) (by omega)
      rw [sgnI_zero, sgnI_pos (x := r) (by omega), sgnI_pos (by omega)]; rfl
theorem sgn_cross_turn {a b c d : Int} (h : a / b = c / d) : -sgnI (b * (c % d) - d * (a % b)) = sgnI (a * d - c * b) := by
  rw [cross_eq h, neg_sgnI]
  congr 1
  rw [Int.mul_comm b, Int.mul_comm d]
  omega
theorem sgnI_bd (x : Int) : -1 ≤ sgnI x ∧ sgnI x ≤ 1 := by unfold sgnI; repeat' split <;> omega

set_option maxHeartbeats 1000000 in
theorem ccCompare_any : ∀ (N : Nat) (a b c d : Int) (w : World), b.toNat ≤ N → 0 ≤ a → a ≤ 1000000000000 → 1 ≤ b → b ≤ 1000000000000 → 0 ≤ c → c ≤ 1000000000000 → 1 ≤ d → d ≤ 1000000000000 →
    Calls Try.prog 59 #[.int .i64 a, .int .i64 b, .int .i64 c, .int .i64 d] w fun e w' => e = .returned (.int .i64 (sgnI (a * d - c * b))) ∧ ∃ m, w' = w.drewN m := by
  intro N
  induction N with
  | zero => intro a b c d w h0 ha ha' hb; omega
  | succ N ih =>
    intro a b c d w h0 ha ha' hb hb' hc hc' hd hd'
    have IH := Lib.hid ih
    clear ih
    have q1 := Int.ediv_nonneg ha (by omega : 0 ≤ b)
    have q2 := Int.ediv_nonneg hc (by omega : 0 ≤ d)
    have q3 := Int.ediv_le_self b ha
    have q4 := Int.ediv_le_self d hc
    have r1 := Int.emod_nonneg a (by omega : b ≠ 0)
    have r2 := Int.emod_nonneg c (by omega : d ≠ 0)
    have r3 := Int.emod_lt_of_pos a (by omega : 0 < b)
    have r4 := Int.emod_lt_of_pos c (by omega : 0 < d)
    by_cases hq : a / b = c / d
    · have hb1 : ((a / b != c / d) : Bool) = false := by simp [hq]
      by_cases hz : a % b = 0 ∨ c % d = 0
      · have HR := Lib.hid (sgn_cross_zero hb hd hq hz)
        clear hq
        have g1 := sgnI_bd (a % b)
        have g2 := sgnI_bd (c % d)
        by_cases hz1 : a % b = 0
        · have hb2 : ((a % b == 0) : Bool) = true := by simp [hz1]
          clear hz hz1
          go_enter Try.func59, Try.ntmps59
          go_wp2
          go_quiet (fail)
          go_wp2
          go_quiet (fail)
          go_wp2_with (go_at_call 76; refine (l1Sign_any _ _).mono ?_; rintro e w' ⟨rfl, m', rfl⟩)
          go_ret
          exact ⟨ret_int HR.out, _, rfl⟩
        · have hb2 : ((a % b == 0) : Bool) = false := by simp [hz1]
          have hb3 : ((c % d == 0) : Bool) = true := by simp; omega
          clear hz hz1
          go_enter Try.func59, Try.ntmps59
          go_wp2
          go_quiet (fail)
          go_wp2
          go_quiet (fail)
          go_wp2_with (go_at_call 76; refine (l1Sign_any _ _).mono ?_; rintro e w' ⟨rfl, m', rfl⟩)
          go_ret
          exact ⟨ret_int HR.out, _, rfl⟩
      · have hb2 : ((a % b == 0) : Bool) = false := by simp; omega
        have hb3 : ((c % d == 0) : Bool) = false := by simp; omega
        have h5 : 1 ≤ a % b := by omega
        have h6 : 1 ≤ c % d := by omega
        have HR := Lib.hid (sgn_cross_turn hq)
        have HI := Lib.hid (fun (w : World) => IH.out b (a % b) d (c % d) w (by omega) (by omega) (by omega) h5 (by omega) (by omega) (by omega) h6 (by omega))
        have hsb := sgnI_bd (b * (c % d) - d * (a % b))
        clear hz hq
        go_enter Try.func59, Try.ntmps59
        go_wp2
        go_quiet (fail)
        go_wp2
        go_quiet (fail)
        go_wp2_with (go_at_call 59; refine (HI.out _).mono ?_; rintro e w' ⟨rfl, m', rfl⟩)
        go_ret
        exact ⟨ret_int HR.out, _, rfl⟩
    · have hb1 : ((a / b != c / d) : Bool) = true := by simp [hq]
      have HR := Lib.hid (sgn_cross_ne hb hd hq)
      clear hq
      have e1 : IntKind.i64.wrap (a / b - c / d) = a / b - c / d := IntWalk.i64_in _ (by omega)
      go_enter Try.func59, Try.ntmps59
      go_wp2
      go_quiet (fail)
      go_wp2
      go_quiet ((go_at_call 76; exact quiet_add (l1Sign_any _ _)))
      go_wp2
      go_ret
      exact ⟨ret_int HR.out, _, World.drewN_drewN ..⟩
theorem maskN (a : Nat) (ha : a < 18446744073709551616) : bits BinOp.and IntKind.u64 (a : Int) 4294967295 = ((a % 4294967296 : Nat) : Int) := by
  have h := u64_and_nat a 4294967295 ha (by omega)
  have e : a &&& 4294967295 = a % 4294967296 := Nat.and_two_pow_sub_one_eq_mod a 32
  rw [e] at h
  exact h
theorem divN (a : Nat) : (a : Int) / 4294967296 = ((a / 4294967296 : Nat) : Int) := by omega
theorem mulN (a b : Nat) : (a : Int) * (b : Int) = ((a * b : Nat) : Int) := (Int.natCast_mul a b).symm
theorem addN (a b : Nat) : (a : Int) + (b : Int) = ((a + b : Nat) : Int) := (Int.natCast_add a b).symm
theorem wrapN (a : Nat) (ha : a < 18446744073709551616) : IntKind.u64.wrap (a : Int) = (a : Int) := by rw [IntKind.wrap_u64]; omega
theorem wrapM (a : Nat) : IntKind.u64.wrap (a : Int) = ((a % 18446744073709551616 : Nat) : Int) := by rw [IntKind.wrap_u64]; omega
set_option maxHeartbeats 1000000 in
theorem Mul64_any (x y : Nat) (w : World) (hx : x < 18446744073709551616) (hy : y < 18446744073709551616) :
    Calls Try.prog 65 #[.int .u64 x, .int .u64 y] w fun e w' => e = .returned (.tuple #[.int .u64 (x * y / 18446744073709551616 : Nat), .int .u64 (x * y % 18446744073709551616 : Nat)]) ∧ ∃ m, w' = w.drewN m := by
  obtain ⟨bd, bt, bw, hhi⟩ := Lib.mul64_hi x y hx hy
  have ba := Lib.half_mul_le (a := x / 4294967296) (b := y / 4294967296) (by omega) (by omega)
  have bb := Lib.half_mul_le (a := x / 4294967296) (b := y % 4294967296) (by omega) (by omega)
  have bc := Lib.half_mul_le (a := x % 4294967296) (b := y / 4294967296) (by omega) (by omega)
  have ba' : x / 4294967296 * (y / 4294967296) < 18446744073709551616 := by omega
  have bb' : x / 4294967296 * (y % 4294967296) < 18446744073709551616 := by omega
  have bc' : x % 4294967296 * (y / 4294967296) < 18446744073709551616 := by omega
  have bh1 : x / 4294967296 * (y / 4294967296) + (x / 4294967296 * (y % 4294967296) + x % 4294967296 * (y % 4294967296) / 4294967296) / 4294967296 < 18446744073709551616 := by omega
  have bh : x / 4294967296 * (y / 4294967296) + (x / 4294967296 * (y % 4294967296) + x % 4294967296 * (y % 4294967296) / 4294967296) / 4294967296 +
      ((x / 4294967296 * (y % 4294967296) + x % 4294967296 * (y % 4294967296) / 4294967296) % 4294967296 + x % 4294967296 * (y / 4294967296)) / 4294967296 < 18446744073709551616 := by
    rw [hhi]
    have : x * y < 18446744073709551616 * 18446744073709551616 := Nat.mul_lt_mul'' hx hy
    omega
  go_enter Try.func65, Try.ntmps65
  go_wp2
  simp only [maskN x hx, maskN y hy, divN, mulN, addN, wrapN _ bd, wrapN _ bb', wrapN _ bt, maskN _ bt, wrapN _ bc', wrapN _ bw, wrapN _ ba', wrapN _ bh1, wrapN _ bh, wrapM]
  rw [hhi]
  go_ret2
  exact ⟨rfl, 0, rfl⟩
set_option maxHeartbeats 400000 in
theorem Compare_any (x y : Nat) (w : World) (_hx : x < 18446744073709551616) (_hy : y < 18446744073709551616) :
    Calls Try.prog 67 #[.int .u64 x, .int .u64 y] w fun e w' => e = .returned (.int .i64 (sgnI ((x : Int) - y))) ∧ ∃ m, w' = w.drewN m := by
  by_cases h1 : x < y
  · rw [sgnI_neg (by omega)]
    go_enter Try.func67, Try.ntmps67
    go_wp2
    go_ret
    exact ⟨rfl, 0, rfl⟩
  · by_cases h2 : y < x
    · rw [sgnI_pos (by omega)]
      go_enter Try.func67, Try.ntmps67
      go_wp2
      go_ret
      exact ⟨rfl, 0, rfl⟩
    · obtain rfl : x = y := by omega
      rw [show (x : Int) - x = 0 from by omega, sgnI_zero]
      go_enter Try.func67, Try.ntmps67
      go_wp2
      go_ret
      exact ⟨rfl, 0, rfl⟩
/-- The first of two numbers that is not 0. -/
def orI (x y : Int) : Int := if x = 0 then y else x
set_option maxHeartbeats 400000 in
theorem Or2_any (x y : Int) (a : Option Addr) (c : Nat) (w : World) (h : Ints w a 2 c [x, y]) :
    Calls Try.prog 66 #[.slice a 2 c] w fun e w' => e = .returned (.int .i64 (orI x y)) ∧ ∃ m, w' = w.drewN m := by
  obtain ⟨g, o, rfl, h0⟩ := h.at 0 (by omega)
  obtain ⟨g', o', hg, h1⟩ := h.at 1 (by omega)
  simp only [Option.some.injEq, Addr.mk.injEq, and_true] at hg
  obtain ⟨rfl, rfl⟩ := hg
  simp only [Nat.add_zero] at h0
  have h0' : w.cell? ⟨g, o, none⟩ = some (.int .i64 x) := h0
  have h1' : w.cell? ⟨g, o + 1, none⟩ = some (.int .i64 y) := h1
  clear h0 h1
  unfold orI
  by_cases hx : x = 0
  · rw [if_pos hx]
    have hb : ((x != 0) : Bool) = false := by simp [hx]
    clear hx
    by_cases hy : y = 0
    · subst hy
      go_enter Try.func66, Try.ntmps66
      go_wp2
      go_rounds 3
      go_ret
      exact ⟨rfl, 0, rfl⟩
    · have hb2 : ((y != 0) : Bool) = true := by simp [hy]
      clear hy
      go_enter Try.func66, Try.ntmps66
      go_wp2
      go_rounds 3
      go_ret
      exact ⟨rfl, 0, rfl⟩
  · rw [if_neg hx]
    have hb : ((x != 0) : Bool) = true := by simp [hx]
    clear hx
    go_enter Try.func66, Try.ntmps66
    go_wp2
    go_rounds 3
    go_ret
    exact ⟨rfl, 0, rfl⟩
theorem sgn_wide (p q : Int) : orI (sgnI (p / 18446744073709551616 - q / 18446744073709551616)) (sgnI (p % 18446744073709551616 - q % 18446744073709551616)) = sgnI (p - q) := by
  unfold orI sgnI
  (repeat' split) <;> omega
set_option maxHeartbeats 1000000 in
theorem compareChances_any (a b c d : Int) (w : World) (ha : 0 ≤ a) (ha' : a ≤ 1000000000000) (hb : 1 ≤ b) (hb' : b ≤ 1000000000000) (hc : 0 ≤ c) (hc' : c ≤ 1000000000000) (hd : 1 ≤ d) (hd' : d ≤ 1000000000000) :
    Calls Try.prog 36 #[.int .i64 a, .int .i64 b, .int .i64 c, .int .i64 d] w fun e w' => e = .returned (.int .i64 (sgnI (a * d - c * b))) ∧ Below w.heap.size w w' := by
  obtain ⟨a, rfl⟩ := Int.eq_ofNat_of_zero_le ha
  obtain ⟨b, rfl⟩ := Int.eq_ofNat_of_zero_le (by omega : 0 ≤ b)
  obtain ⟨c, rfl⟩ := Int.eq_ofNat_of_zero_le hc
  obtain ⟨d, rfl⟩ := Int.eq_ofNat_of_zero_le (by omega : 0 ≤ d)
  have HW := Lib.hid (sgn_wide ((a : Int) * d) ((c : Int) * b))
  have m1 : a * d % 18446744073709551616 < 18446744073709551616 := Nat.mod_lt _ (by decide)
  have m2 : c * b % 18446744073709551616 < 18446744073709551616 := Nat.mod_lt _ (by decide)
  have m3 : a * d / 18446744073709551616 < 18446744073709551616 := by
    have : a * d ≤ 1000000000000 * 1000000000000 := Nat.mul_le_mul (by omega) (by omega)
    omega
  have m4 : c * b / 18446744073709551616 < 18446744073709551616 := by
    have : c * b ≤ 1000000000000 * 1000000000000 := Nat.mul_le_mul (by omega) (by omega)
    omega
  go_enter Try.func36, Try.ntmps36
  go_wp2_with fail
  refine (Mul64_any a d _ (by omega) (by omega)).mono ?_; rintro e w1 ⟨rfl, q1⟩
  go_wp2_with fail
  refine (Mul64_any c b _ (by omega) (by omega)).mono ?_; rintro e w2 ⟨rfl, q2⟩
  go_wp2_with fail
  refine (Compare_any _ _ _ m3 m4).mono ?_; rintro e w3 ⟨rfl, q3⟩
  go_wp2_with fail
  refine (Compare_any _ _ _ m1 m2).mono ?_; rintro e w4 ⟨rfl, q4⟩
  go_wp2_with fail
  refine (Or2_any _ _ _ _ _ (Ints.lit2 _ _ _ _)).mono ?_; rintro e w5 ⟨rfl, q5⟩
  obtain ⟨m1, rfl⟩ := q1
  obtain ⟨m2, rfl⟩ := q2
  obtain ⟨m3, rfl⟩ := q3
  obtain ⟨m4, rfl⟩ := q4
  obtain ⟨m5, rfl⟩ := q5
  go_wp2
  go_ret
  exact ⟨ret_int HW.out, below_drewN ((below_of_drewN _).alloc (Nat.le_refl _) _) _⟩
def cmpB (a b c d : Int) : Bool := decide (0 ≤ a ∧ a ≤ 1000000000000 ∧ 0 ≤ c ∧ c ≤ 1000000000000 ∧ 1 ≤ b ∧ b ≤ 1000000000000 ∧ 1 ≤ d ∧ d ≤ 1000000000000)
def cmpV (a b c d : Int) : Int := if 0 ≤ a ∧ a ≤ 1000000000000 ∧ 0 ≤ c ∧ c ≤ 1000000000000 ∧ 1 ≤ b ∧ b ≤ 1000000000000 ∧ 1 ≤ d ∧ d ≤ 1000000000000 then sgnI (a * d - c * b) else 0
theorem cmp_no {a b c d : Int} (h : ¬ (0 ≤ a ∧ a ≤ 1000000000000 ∧ 0 ≤ c ∧ c ≤ 1000000000000 ∧ 1 ≤ b ∧ b ≤ 1000000000000 ∧ 1 ≤ d ∧ d ≤ 1000000000000)) : cmpB a b c d = false ∧ cmpV a b c d = 0 :=
  ⟨by unfold cmpB; rw [decide_eq_false_iff_not]; exact h, by unfold cmpV; rw [if_neg h]⟩
theorem cmp_yes {a b c d : Int} (h : 0 ≤ a ∧ a ≤ 1000000000000 ∧ 0 ≤ c ∧ c ≤ 1000000000000 ∧ 1 ≤ b ∧ b ≤ 1000000000000 ∧ 1 ≤ d ∧ d ≤ 1000000000000) : cmpB a b c d = true ∧ cmpV a b c d = sgnI (a * d - c * b) :=
  ⟨by unfold cmpB; rw [decide_eq_true_eq]; exact h, by unfold cmpV; rw [if_pos h]⟩
theorem allB_two (x y lo hi : Int) : allB [x, y] lo hi = decide (lo ≤ x ∧ x ≤ hi ∧ lo ≤ y ∧ y ≤ hi) := by
  rw [Bool.eq_iff_iff, allB_iff]; simp; omega
set_option maxHeartbeats 1000000 in
theorem CompareChances_any (a b c d : Int) (w : World) :
    Calls Try.prog 9 #[.int .i64 a, .int .i64 b, .int .i64 c, .int .i64 d] w fun e w' => e = .returned (.tuple #[.int .i64 (cmpV a b c d), .bool (cmpB a b c d)]) ∧ Below w.heap.size w w' := by
  by_cases h : 0 ≤ a ∧ a ≤ 1000000000000 ∧ 0 ≤ c ∧ c ≤ 1000000000000 ∧ 1 ≤ b ∧ b ≤ 1000000000000 ∧ 1 ≤ d ∧ d ≤ 1000000000000
  · obtain ⟨e1, e2⟩ := cmp_yes h
    rw [e1, e2]
    clear e1 e2
    obtain ⟨h1, h2, h3, h4, h5, h6, h7, h8⟩ := h
    go_enter Try.func9, Try.ntmps9
    go_wp2_with (first | (go_at_call 36; refine (compareChances_any _ _ _ _ _ h1 h2 h5 h6 h3 h4 h7 h8).mono ?_; rintro e w' ⟨rfl, u⟩) | go_in)
    go_ret2
    exact ⟨rfl, by assumption⟩
  · obtain ⟨e1, e2⟩ := cmp_no h
    rw [e1, e2]
    clear e1 e2
    by_cases h1 : 0 ≤ a ∧ a ≤ 1000000000000
    · by_cases h2 : 0 ≤ c ∧ c ≤ 1000000000000
      · by_cases h3 : 1 ≤ b ∧ b ≤ 1000000000000
        · have h4 : d < 1 ∨ 1000000000000 < d := by omega
          clear h
          obtain ⟨h1, h1'⟩ := h1
          obtain ⟨h2, h2'⟩ := h2
          obtain ⟨h3, h3'⟩ := h3
          have hb : (decide (1 ≤ d) && decide (d ≤ 1000000000000)) = false := by simp; omega
          rcases h4 with h4 | h4
          · go_enter Try.func9, Try.ntmps9
            go_wp2
            go_ret2
            exact ⟨rfl, Below.refl _ _⟩
          · have hb2 : decide (d ≤ 1000000000000) = false := by simp; omega
            go_enter Try.func9, Try.ntmps9
            go_wp2
            go_ret2
            exact ⟨rfl, Below.refl _ _⟩
        · have h4 : b < 1 ∨ 1000000000000 < b := by omega
          clear h h3
          obtain ⟨h1, h1'⟩ := h1
          obtain ⟨h2, h2'⟩ := h2
          rcases h4 with h4 | h4
          all_goals
            go_enter Try.func9, Try.ntmps9
            go_wp2
            go_ret2
            exact ⟨rfl, Below.refl _ _⟩
      · have h4 : c < 0 ∨ 1000000000000 < c := by omega
        clear h h2
        obtain ⟨h1, h1'⟩ := h1
        rcases h4 with h4 | h4
        all_goals
          go_enter Try.func9, Try.ntmps9
          go_wp2
          go_ret2
          exact ⟨rfl, Below.refl _ _⟩
    · have h4 : a < 0 ∨ 1000000000000 < a := by omega
      clear h h1
      rcases h4 with h4 | h4
      all_goals
        go_enter Try.func9, Try.ntmps9
        go_wp2
        go_ret2
        exact ⟨rfl, Below.refl _ _⟩
set_option maxHeartbeats 1000000 in
theorem spec_CompareChances_any (a b c d : Int) (w : World) :
    Calls Try.prog 23 #[.int .i64 a, .int .i64 b, .int .i64 c, .int .i64 d] w fun e w' => e = .returned (.tuple #[.int .i64 (cmpV a b c d), .bool (cmpB a b c d)]) ∧ Below w.heap.size w w' := by
  have r1 := allB_two a c 0 1000000000000
  have r2 := allB_two b d 1 1000000000000
  by_cases h : 0 ≤ a ∧ a ≤ 1000000000000 ∧ 0 ≤ c ∧ c ≤ 1000000000000 ∧ 1 ≤ b ∧ b ≤ 1000000000000 ∧ 1 ≤ d ∧ d ≤ 1000000000000
  · obtain ⟨e1, e2⟩ := cmp_yes h
    rw [e1, e2]
    clear e1 e2
    obtain ⟨h1, h2, h3, h4, h5, h6, h7, h8⟩ := h
    rw [decide_eq_true ⟨h1, h2, h3, h4⟩] at r1
    rw [decide_eq_true ⟨h5, h6, h7, h8⟩] at r2
    go_enter Try.func23, Try.ntmps23
    go_wp2_with fail
    refine (l1All_any _ _ _ [a, c] _ _ _ (Ints.lit2 _ _ _ _)).mono ?_; rintro e w1 ⟨rfl, q1⟩
    have u1 := ((Below.refl _ w).alloc (Nat.le_refl _) (.cells #[.int .i64 a, .int .i64 c] 3)).trans ((below_of_quiet q1).mono (by simp))
    clear q1
    go_wp2_with fail
    refine (l1All_any _ _ _ [b, d] _ _ _ (Ints.lit2 _ _ _ _)).mono ?_; rintro e w2 ⟨rfl, q2⟩
    have u2 := (u1.alloc u1.size (.cells #[.int .i64 b, .int .i64 d] 3)).trans ((below_of_quiet q2).mono (by have := u1.size; simp; omega))
    clear q2 u1
    go_wp2_with fail
    refine (ccCompare_any b.toNat a b c d _ (Nat.le_refl _) h1 h2 h5 h6 h3 h4 h7 h8).mono ?_; rintro e w3 ⟨rfl, q3⟩
    have u3 := u2.trans ((below_of_quiet q3).mono u2.size)
    clear q3 u2
    go_wp2
    go_ret2
    exact ⟨rfl, u3⟩
  · obtain ⟨e1, e2⟩ := cmp_no h
    rw [e1, e2]
    clear e1 e2
    by_cases h1 : 0 ≤ a ∧ a ≤ 1000000000000 ∧ 0 ≤ c ∧ c ≤ 1000000000000
    · rw [decide_eq_true h1] at r1
      rw [decide_eq_false (by omega)] at r2
      clear h h1
      go_enter Try.func23, Try.ntmps23
      go_wp2_with fail
      refine (l1All_any _ _ _ [a, c] _ _ _ (Ints.lit2 _ _ _ _)).mono ?_; rintro e w1 ⟨rfl, q1⟩
      have u1 := ((Below.refl _ w).alloc (Nat.le_refl _) (.cells #[.int .i64 a, .int .i64 c] 3)).trans ((below_of_quiet q1).mono (by simp))
      clear q1
      go_wp2_with fail
      refine (l1All_any _ _ _ [b, d] _ _ _ (Ints.lit2 _ _ _ _)).mono ?_; rintro e w2 ⟨rfl, q2⟩
      have u2 := (u1.alloc u1.size (.cells #[.int .i64 b, .int .i64 d] 3)).trans ((below_of_quiet q2).mono (by have := u1.size; simp; omega))
      clear q2 u1
      go_wp2
      go_ret2
      exact ⟨rfl, u2⟩
    · rw [decide_eq_false h1] at r1
      clear h h1
      go_enter Try.func23, Try.ntmps23
      go_wp2_with fail
      refine (l1All_any _ _ _ [a, c] _ _ _ (Ints.lit2 _ _ _ _)).mono ?_; rintro e w1 ⟨rfl, q1⟩
      have u1 := ((Below.refl _ w).alloc (Nat.le_refl _) (.cells #[.int .i64 a, .int .i64 c] 3)).trans ((below_of_quiet q1).mono (by simp))
      clear q1
      go_wp2
      go_ret2
      exact ⟨rfl, u1⟩
end Go.Proofs.Ytnhphmhckbjnnaa
