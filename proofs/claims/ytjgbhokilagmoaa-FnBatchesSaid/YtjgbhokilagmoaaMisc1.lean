/- Widths, missed deltas, majorities, opened counts; the laws over them. -/
import Derived.Test.YtjgbhokilagmoaaField
import Derived.Test.YtjgbhokilagmoaaWidth
namespace Go.Proofs.Ytjgbhokilagmoaa
open Go.RowKit

def widV (p : Int) : Int := if isPr p then (wid p : Int) else 0
/-- How many of the numbers from 1 up to below d give t. -/
def missC (p c t : Int) : Nat → Nat
  | 0 => 0
  | d + 1 => missC p c t d + if 1 ≤ d ∧ (c * d) % p = t then 1 else 0
theorem missC_le (p c t : Int) (d : Nat) : missC p c t d ≤ d := by
  induction d with
  | zero => exact Nat.le_refl _
  | succ d ih => simp only [missC]; split <;> omega
def missedB (p c t : Int) : Bool := elB p c && elB p t
def missedV (p c t : Int) : Int := if missedB p c t then (missC p c t p.toNat : Int) else 0
theorem mod_hit {p x t : Int} (hp : 2 ≤ p) (h0 : 0 ≤ t) (h1 : t ≤ p - 1) : (x - t) % p = 0 ↔ x % p = t := by
  rw [Int.sub_emod, Int.emod_eq_of_lt h0 (by omega : t < p)]
  have a1 := Int.emod_nonneg x (by omega : p ≠ 0)
  have a2 := Int.emod_lt_of_pos x (by omega : 0 < p)
  constructor
  · intro h
    have := Int.emod_emod_of_dvd
    by_cases hh : t ≤ x % p
    · rw [Int.emod_eq_of_lt (by omega) (by omega)] at h; omega
    · rw [← Int.add_emod_right, Int.emod_eq_of_lt (by omega) (by omega)] at h; omega
  · intro h; rw [h]; simp
theorem prod_le {c d p : Int} (h1 : 0 ≤ c) (h2 : c ≤ p - 1) (h3 : 0 ≤ d) (h4 : d ≤ p) (hp : p ≤ 251) : 0 ≤ c * d ∧ c * d ≤ 63001 := by
  have a := Int.mul_nonneg h1 h3
  have b : c * d ≤ 251 * 251 := Int.mul_le_mul (by omega) (by omega) h3 (by omega)
  omega
set_option maxHeartbeats 1000000 in
theorem MissedDeltas_any (p c t : Int) (w : World) :
    Calls Try.prog 34 #[.int .i64 p, .int .i64 c, .int .i64 t] w fun e w' => e = .returned (.tuple #[.int .i64 (missedV p c t), .bool (missedB p c t)]) ∧ ∃ m, w' = w.drewN m := by
  unfold missedV missedB
  cases h1 : elB p c
  · simp only [Bool.false_and, Bool.false_eq_true, if_false]
    go_enter Try.func34, Try.ntmps34
    go_wp2_with (first | (go_at_call 104; refine (isElement_any _ _ _).mono ?_; rintro e w' ⟨rfl, m, rfl⟩))
    go_ret2
    exact ⟨rfl, _, rfl⟩
  · cases h2 : elB p t
    · simp only [Bool.and_false, Bool.false_eq_true, if_false]
      go_enter Try.func34, Try.ntmps34
      go_wp2_with (first | (go_at_call 104; refine (isElement_any _ _ _).mono ?_; rintro e w' ⟨rfl, m, rfl⟩))
      go_ret2
      exact ⟨rfl, _, rfl⟩
    · simp only [Bool.and_self, if_true]
      obtain ⟨_, p1, p2, c1, c2⟩ := elB_true h1
      obtain ⟨_, _, _, t1, t2⟩ := elB_true h2
      go_enter Try.func34, Try.ntmps34
      go_wp2_with (first | (go_at_call 104; refine (isElement_any _ _ _).mono ?_; rintro e w' ⟨rfl, m, rfl⟩))
      go_loopw [8, 9] (fun u v wr => ∃ d : Nat, 1 ≤ d ∧ (d : Int) ≤ p ∧ u = .int .i64 (missC p c t d : Nat) ∧ v = .int .i64 d ∧ ∃ m, wr = w.drewN m) (fun _ v _ => p.toNat - (intOf v).toNat)
      case atStart => exact ⟨1, by omega, by omega, rfl, rfl, _, rfl⟩
      case round =>
        obtain ⟨d, hd1, hd2, rfl, rfl, m, rfl⟩ := hrel
        have hle := missC_le p c t d
        have hpr := prod_le c1 c2 (by omega : (0 : Int) ≤ d) hd2 p2
        by_cases hlt : (d : Int) < p
        · have hh := mod_hit (x := c * d) p1 t1 t2
          by_cases hx : (c * d) % p = t
          · have hb : ((c * d - t) % p == 0) = true := by simp [hh.2 hx]
            have HS := Lib.hid (show missC p c t (d + 1) = missC p c t d + 1 by simp [missC, hx, hd1])
            clear hh hx
            go_wp2_with (first | (go_at_call 95; refine (mod_any _ _ _ (by omega) (by omega)).mono ?_; rintro e w' ⟨rfl, m', rfl⟩) | go_in)
            go_roundw
            case rel => exact ⟨d + 1, by omega, by omega, v_int (by rw [HS.out]; omega), by go_num, _, rfl⟩
            case measure => simp [intOf]; omega
          · have hb : ((c * d - t) % p == 0) = false := by simp; exact fun h => hx (hh.1 h)
            have HS := Lib.hid (show missC p c t (d + 1) = missC p c t d by simp [missC, hx])
            clear hh hx
            go_wp2_with (first | (go_at_call 95; refine (mod_any _ _ _ (by omega) (by omega)).mono ?_; rintro e w' ⟨rfl, m', rfl⟩) | go_in)
            go_roundw
            case rel => exact ⟨d + 1, by omega, by omega, v_int (by rw [HS.out]), by go_num, _, rfl⟩
            case measure => simp [intOf]; omega
        · have HE := Lib.hid (show p.toNat = d by omega)
          go_wp2
          go_ret2
          exact ⟨ret_2 (v_int (by rw [HE.out])) rfl, _, rfl⟩
end Go.Proofs.Ytjgbhokilagmoaa
