/- Widths, missed deltas, majorities, opened counts; the laws over them. -/
import Derived.Test.YtonfffjhdgnaoaaField
import Derived.Test.YtonfffjhdgnaoaaWidth
namespace Go.Proofs.Ytonfffjhdgnaoaa
open Go.RowKit

def widV (p : Int) : Int := if isPr p then (wid p : Int) else 0
set_option maxHeartbeats 400000 in
theorem WidthFor_any (p : Int) (w : World) :
    Calls Try.prog 21 #[.int .i64 p] w fun e w' => e = .returned (.tuple #[.int .i64 (widV p), .bool (isPr p)]) ∧ ∃ m, w' = w.drewN m := by
  unfold widV
  cases hp : isPr p
  · simp only [Bool.false_eq_true, if_false]
    go_enter Try.func21, Try.ntmps21
    go_wp2_with (first | (go_at_call 51; refine (IsPrime_any _ _).mono ?_; rintro e w' ⟨rfl, m, rfl⟩))
    go_ret2
    exact ⟨rfl, _, rfl⟩
  · obtain ⟨r1, r2⟩ := isPr_range hp
    simp only [if_true]
    go_enter Try.func21, Try.ntmps21
    go_wp2_with (first | (go_at_call 51; refine (IsPrime_any _ _).mono ?_; rintro e w' ⟨rfl, m, rfl⟩) | (go_at_call 52; refine (widthFor_any _ _ (by omega) (by omega)).mono ?_; rintro e w' ⟨rfl, rfl⟩))
    go_ret2
    exact ⟨rfl, _, rfl⟩
set_option maxHeartbeats 400000 in
theorem spec_WidthFor_any (p : Int) (w : World) :
    Calls Try.prog 20 #[.int .i64 p] w fun e w' => e = .returned (.tuple #[.int .i64 (widV p), .bool (isPr p)]) ∧ ∃ m, w' = w.drewN m := by
  unfold widV
  cases hp : isPr p
  · simp only [Bool.false_eq_true, if_false]
    go_enter Try.func20, Try.ntmps20
    go_wp2_with (first | (go_at_call 49; refine (fpGood_any _ _).mono ?_; rintro e w' ⟨rfl, m, rfl⟩))
    go_ret2
    exact ⟨rfl, _, rfl⟩
  · obtain ⟨r1, r2⟩ := isPr_range hp
    simp only [if_true]
    go_enter Try.func20, Try.ntmps20
    go_wp2_with (first | (go_at_call 49; refine (fpGood_any _ _).mono ?_; rintro e w' ⟨rfl, m, rfl⟩) | (go_at_call 50; refine (cvWidth_any _ _ (by omega) (by omega)).mono ?_; rintro e w' ⟨rfl, rfl⟩))
    go_ret2
    exact ⟨rfl, _, rfl⟩
set_option maxHeartbeats 2000000 in
theorem FnExactWidthFor_walk (a0 : Int) (w : World) (_w0 : -9223372036854775808 ≤ a0 ∧ a0 ≤ 9223372036854775807) :
    Calls Try.prog 6 #[.int .i64 a0] w fun e w' => e = .returned (.bool true) ∧ Below w.heap.size w w' := by
  go_enter Try.func6, Try.ntmps6
  go_wp2_with fail
  refine (spec_WidthFor_any _ _ ).mono ?_
  rintro e w1' ⟨rfl, q1⟩
  have u1 := below_of_quiet q1
  clear q1
  have V1 := u1
  clear u1
  go_wp2_with fail
  refine (WidthFor_any _ _ ).mono ?_
  rintro e w2' ⟨rfl, q2⟩
  have u2 := below_of_quiet q2
  clear q2
  have V2 : Below w.heap.size w w2' := V1.trans (u2.mono V1.size)
  clear V1
  clear u2
  go_wp2
  go_ret
  exact ⟨rfl, V2⟩
/-- How many of the numbers from 1 up to below d give t. -/
def missC (p c t : Int) : Nat → Nat
  | 0 => 0
  | d + 1 => missC p c t d + if 1 ≤ d ∧ (c * d) % p = t then 1 else 0
theorem missC_le (p c t : Int) (d : Nat) : missC p c t d ≤ d := by
  induction d with
  | zero => exact Nat.le_refl _
  | succ d ih => simp only [missC]; split <;> omega
def missedB (p c t : Int) : Bool := elB p c && elB p t
def missedV (p c t : Int) : Int := if missedB p c t then (missC p c t p.toNat : Int) else 0
theorem mod_hit {p x t : Int} (hp : 2 ≤ p) (h0 : 0 ≤ t) (h1 : t ≤ p - 1) : (x - t) % p = 0 ↔ x % p = t := by
  rw [Int.sub_emod, Int.emod_eq_of_lt h0 (by omega : t < p)]
  have a1 := Int.emod_nonneg x (by omega : p ≠ 0)
  have a2 := Int.emod_lt_of_pos x (by omega : 0 < p)
  constructor
  · intro h
    have := Int.emod_emod_of_dvd
    by_cases hh : t ≤ x % p
    · rw [Int.emod_eq_of_lt (by omega) (by omega)] at h; omega
    · rw [← Int.add_emod_right, Int.emod_eq_of_lt (by omega) (by omega)] at h; omega
  · intro h; rw [h]; simp
theorem prod_le {c d p : Int} (h1 : 0 ≤ c) (h2 : c ≤ p - 1) (h3 : 0 ≤ d) (h4 : d ≤ p) (hp : p ≤ 251) : 0 ≤ c * d ∧ c * d ≤ 63001 := by
  have a := Int.mul_nonneg h1 h3
  have b : c * d ≤ 251 * 251 := Int.mul_le_mul (by omega) (by omega) h3 (by omega)
  omega
set_option maxHeartbeats 1000000 in
theorem MissedDeltas_any (p c t : Int) (w : World) :
    Calls Try.prog 29 #[.int .i64 p, .int .i64 c, .int .i64 t] w fun e w' => e = .returned (.tuple #[.int .i64 (missedV p c t), .bool (missedB p c t)]) ∧ ∃ m, w' = w.drewN m := by
  unfold missedV missedB
  cases h1 : elB p c
  · simp only [Bool.false_and, Bool.false_eq_true, if_false]
    go_enter Try.func29, Try.ntmps29
    go_wp2_with (first | (go_at_call 57; refine (isElement_any _ _ _).mono ?_; rintro e w' ⟨rfl, m, rfl⟩))
    go_ret2
    exact ⟨rfl, _, rfl⟩
  · cases h2 : elB p t
    · simp only [Bool.and_false, Bool.false_eq_true, if_false]
      go_enter Try.func29, Try.ntmps29
      go_wp2_with (first | (go_at_call 57; refine (isElement_any _ _ _).mono ?_; rintro e w' ⟨rfl, m, rfl⟩))
      go_ret2
      exact ⟨rfl, _, rfl⟩
    · simp only [Bool.and_self, if_true]
      obtain ⟨_, p1, p2, c1, c2⟩ := elB_true h1
      obtain ⟨_, _, _, t1, t2⟩ := elB_true h2
      go_enter Try.func29, Try.ntmps29
      go_wp2_with (first | (go_at_call 57; refine (isElement_any _ _ _).mono ?_; rintro e w' ⟨rfl, m, rfl⟩))
      go_loopw [8, 9] (fun u v wr => ∃ d : Nat, 1 ≤ d ∧ (d : Int) ≤ p ∧ u = .int .i64 (missC p c t d : Nat) ∧ v = .int .i64 d ∧ ∃ m, wr = w.drewN m) (fun _ v _ => p.toNat - (intOf v).toNat)
      case atStart => exact ⟨1, by omega, by omega, rfl, rfl, _, rfl⟩
      case round =>
        obtain ⟨d, hd1, hd2, rfl, rfl, m, rfl⟩ := hrel
        have hle := missC_le p c t d
        have hpr := prod_le c1 c2 (by omega : (0 : Int) ≤ d) hd2 p2
        by_cases hlt : (d : Int) < p
        · have hh := mod_hit (x := c * d) p1 t1 t2
          by_cases hx : (c * d) % p = t
          · have hb : ((c * d - t) % p == 0) = true := by simp [hh.2 hx]
            have HS := Lib.hid (show missC p c t (d + 1) = missC p c t d + 1 by simp [missC, hx, hd1])
            clear hh hx
            go_wp2_with (first | (go_at_call 58; refine (mod_any _ _ _ (by omega) (by omega)).mono ?_; rintro e w' ⟨rfl, m', rfl⟩) | go_in)
            go_roundw
            case rel => exact ⟨d + 1, by omega, by omega, v_int (by rw [HS.out]; omega), by go_num, _, rfl⟩
            case measure => simp [intOf]; omega
          · have hb : ((c * d - t) % p == 0) = false := by simp; exact fun h => hx (hh.1 h)
            have HS := Lib.hid (show missC p c t (d + 1) = missC p c t d by simp [missC, hx])
            clear hh hx
            go_wp2_with (first | (go_at_call 58; refine (mod_any _ _ _ (by omega) (by omega)).mono ?_; rintro e w' ⟨rfl, m', rfl⟩) | go_in)
            go_roundw
            case rel => exact ⟨d + 1, by omega, by omega, v_int (by rw [HS.out]), by go_num, _, rfl⟩
            case measure => simp [intOf]; omega
        · have HE := Lib.hid (show p.toNat = d by omega)
          go_wp2
          go_ret2
          exact ⟨ret_2 (v_int (by rw [HE.out])) rfl, _, rfl⟩
set_option maxHeartbeats 1000000 in
theorem spec_MissedDeltas_any (p c t : Int) (w : World) :
    Calls Try.prog 28 #[.int .i64 p, .int .i64 c, .int .i64 t] w fun e w' => e = .returned (.tuple #[.int .i64 (missedV p c t), .bool (missedB p c t)]) ∧ Below w.heap.size w w' := by
  unfold missedV missedB
  have e2 := elsB_two p c t
  have hbel : Below w.heap.size w (w.alloc (.cells #[.int .i64 c, .int .i64 t] 3)) := (Below.refl _ _).alloc (Nat.le_refl _) _
  cases h1 : (elB p c && elB p t)
  · rw [h1] at e2
    simp only [Bool.false_eq_true, if_false]
    go_enter Try.func28, Try.ntmps28
    go_wp2_with (first | (go_at_call 56; refine (fpIn_any _ _ _ _ [c, t] _ (Ints.lit2 _ _ _ _)).mono ?_; rintro e w' ⟨rfl, m, rfl⟩))
    go_ret2
    exact ⟨rfl, below_drewN hbel _⟩
  · rw [h1] at e2
    simp only [if_true]
    simp only [Bool.and_eq_true] at h1
    obtain ⟨_, p1, p2, c1, c2⟩ := elB_true h1.1
    obtain ⟨_, _, _, t1, t2⟩ := elB_true h1.2
    clear h1
    go_enter Try.func28, Try.ntmps28
    go_wp2_with (first | (go_at_call 56; refine (fpIn_any _ _ _ _ [c, t] _ (Ints.lit2 _ _ _ _)).mono ?_; rintro e w' ⟨rfl, m, rfl⟩))
    go_loop [8, 9] (fun u v => ∃ d : Nat, 1 ≤ d ∧ (d : Int) ≤ p ∧ u = .int .i64 (missC p c t d : Nat) ∧ v = .int .i64 d) (fun _ v => p.toNat - (intOf v).toNat)
    case atStart => exact ⟨1, by omega, by omega, rfl, rfl⟩
    case round =>
      obtain ⟨d, hd1, hd2, rfl, rfl⟩ := hrel
      have hle := missC_le p c t d
      have hpr := prod_le c1 c2 (by omega : (0 : Int) ≤ d) hd2 p2
      by_cases hlt : (d : Int) < p
      · by_cases hx : (c * d) % p = t
        · have hb : ((c * d) % p == t) = true := by simp [hx]
          have HS := Lib.hid (show missC p c t (d + 1) = missC p c t d + 1 by simp [missC, hx, hd1])
          clear hx
          go_wp2
          go_round
          case rel => exact ⟨d + 1, by omega, by omega, v_int (by rw [HS.out]; omega), by go_num⟩
          case measure => simp [intOf]; omega
        · have hb : ((c * d) % p == t) = false := by simp [hx]
          have HS := Lib.hid (show missC p c t (d + 1) = missC p c t d by simp [missC, hx])
          clear hx
          go_wp2
          go_round
          case rel => exact ⟨d + 1, by omega, by omega, v_int (by rw [HS.out]), by go_num⟩
          case measure => simp [intOf]; omega
      · have HE := Lib.hid (show p.toNat = d by omega)
        go_wp2
        go_ret2
        exact ⟨ret_2 (v_int (by rw [HE.out])) rfl, below_drewN hbel _⟩
set_option maxHeartbeats 2000000 in
theorem FnExactMissedDeltas_walk (a0 : Int) (a1 : Int) (a2 : Int) (w : World) (_w0 : -9223372036854775808 ≤ a0 ∧ a0 ≤ 9223372036854775807) (_w1 : -9223372036854775808 ≤ a1 ∧ a1 ≤ 9223372036854775807) (_w2 : -9223372036854775808 ≤ a2 ∧ a2 ≤ 9223372036854775807) :
    Calls Try.prog 9 #[.int .i64 a0, .int .i64 a1, .int .i64 a2] w fun e w' => e = .returned (.bool true) ∧ Below w.heap.size w w' := by
  go_enter Try.func9, Try.ntmps9
  go_wp2_with fail
  refine (spec_MissedDeltas_any _ _ _ _ ).mono ?_
  rintro e w1' ⟨rfl, u1⟩
  have V1 := u1
  clear u1
  go_wp2_with fail
  refine (MissedDeltas_any _ _ _ _ ).mono ?_
  rintro e w2' ⟨rfl, q2⟩
  have u2 := below_of_quiet q2
  clear q2
  have V2 : Below w.heap.size w w2' := V1.trans (u2.mono V1.size)
  clear V1
  clear u2
  go_wp2
  go_ret
  exact ⟨rfl, V2⟩
end Go.Proofs.Ytonfffjhdgnaoaa
