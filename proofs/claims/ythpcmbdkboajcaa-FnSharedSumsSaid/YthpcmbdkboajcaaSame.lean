/- The laws' own helpers: lengths, lists, remainders; and whether a triple fits (the reference's). -/
import Derived.Test.YthpcmbdkboajcaaMulSh
namespace Go.Proofs.Ythpcmbdkboajcaa
open Go.RowKit
/-- Two slices that read alike are equal to the laws. -/
theorem sameInts_same (a : Option Addr) (n c : Nat) (a' : Option Addr) (n' c' : Nat) (l : List Int) (w : World) (h : Ints w a n c l) (h' : Ints w a' n' c' l) :
    Calls Try.prog 9 #[.slice a n c, .slice a' n' c'] w fun e w' => e = .returned (.bool true) ∧ ∃ m, w' = w.drewN m := by
  obtain rfl : n = n' := by rw [h.len, h'.len]
  have hn := h.le
  go_enter Try.func9, Try.ntmps9
  go_wp2
  go_loopw [13] (fun v wr => ∃ k : Nat, k ≤ n ∧ v = .int .i64 k ∧ ∃ m, wr = w.drewN m) (fun v _ => n - (intOf v).toNat)
  case atStart => exact ⟨0, Nat.zero_le _, rfl, 0, rfl⟩
  case round =>
    obtain ⟨k, hk, rfl, m, rfl⟩ := hrel
    by_cases hlt : k < n
    · obtain ⟨g, o, rfl, hcell⟩ := h.at k hlt
      obtain ⟨g', o', rfl, hcell'⟩ := h'.at k hlt
      have hb : ((l.getD k 0 != l.getD k 0) : Bool) = false := by simp
      go_wp2
      go_quiet (fail)
      go_wp2
      go_roundw
      case rel => exact ⟨k + 1, by omega, by go_num, _, by first | rfl | exact World.drewN_drewN ..⟩
      case measure => simp [intOf]; omega
    · go_wp2
      go_ret
      exact ⟨rfl, _, rfl⟩
def AnyB (e : Ending) : Prop := ∃ b : Bool, e = .returned (.bool b)
theorem AnyB.of (b : Bool) : AnyB (.returned (.bool b)) := ⟨b, rfl⟩
theorem big_any (a : Option Addr) (n c : Nat) (a' : Option Addr) (n' c' : Nat) (w : World) (hn : n ≤ maxLen) :
    Calls Try.prog 5 #[.slice a n c, .slice a' n' c'] w fun e w' => AnyB e ∧ w' = w := by
  unfold maxLen at hn
  by_cases h1 : (n : Int) > 1048576
  · go_enter Try.func5, Try.ntmps5
    go_wp2
    go_ret
    exact ⟨AnyB.of _, rfl⟩
  · by_cases h2 : (n' : Int) > 1048576 - n
    · go_enter Try.func5, Try.ntmps5
      go_wp2
      go_ret
      exact ⟨AnyB.of _, rfl⟩
    · have h1' : decide ((n : Int) > 1048576) = false := decide_eq_false h1
      have h2' : decide ((n' : Int) > 1048576 - n) = false := decide_eq_false h2
      go_enter Try.func5, Try.ntmps5
      go_wp2
      go_ret
      exact ⟨AnyB.of _, rfl⟩
theorem pMod_any (a m : Int) (w : World) (hm : 1 ≤ m) (hm2 : m ≤ 1000) :
    Calls Try.prog 10 #[.int .i64 a, .int .i64 m] w fun e w' => e = .returned (.int .i64 (a % m)) ∧ w' = w := by
  obtain ⟨T, hT⟩ : ∃ T, a.tmod m = T := ⟨_, rfl⟩
  have t1 : T < m := by rw [← hT]; exact Int.tmod_lt_of_pos a (by omega)
  have t2 : 0 < T + m := by
    rw [← hT]
    by_cases ha : 0 ≤ a
    · have := Int.tmod_nonneg m ha; omega
    · have h3 : (-a).tmod m < m := Int.tmod_lt_of_pos _ (by omega)
      rw [Int.neg_tmod] at h3; omega
  have t3 : (T + m).tmod m = a % m := by
    rw [Int.tmod_eq_emod_of_nonneg (by omega), Int.add_emod_right, ← hT]
    have e := Int.mul_tdiv_add_tmod a m
    have : a.tmod m = a + m * (-(a.tdiv m)) := by rw [Int.mul_neg]; omega
    rw [this, Int.add_mul_emod_self_left]
  have t0 := mod_rng a m hm
  have t7 : (m == 0) = false := by simp; omega
  have t8 : (m = 0) = False := by simp; omega
  go_enter Try.func10, Try.ntmps10
  go_wp2
  go_ret
  exact ⟨ret_int (by first | rfl | exact t3 | simp [hT, t3]), rfl⟩
set_option maxHeartbeats 4000000 in
set_option maxRecDepth 100000 in
theorem spec_TripleFits_any (p : Int) (a : Option Addr) (n c : Nat) (l : List Int) (w : World) (h : Ints w a n c l) :
    Calls Try.prog 16 #[.int .i64 p, .slice a n c] w fun e w' => e = .returned (.tuple #[.bool (sixB p l && fitsB p l), .bool (sixB p l)]) ∧ Below w.heap.size w w' := by
  have hl := h.le
  have HB : Hid (sixB p l = (elsB p l && decide (n = 6))) := Lib.hid (by unfold sixB; rw [h.len])
  cases h1 : elsB p l
  · rw [HB.out, h1]
    simp only [Bool.false_and]
    go_enter Try.func16, Try.ntmps16
    go_wp2_with fail
    refine (fpIn_any _ _ _ _ l _ h).mono ?_; rintro e w2 ⟨rfl, q2⟩
    rw [h1]
    have u2 := below_of_quiet q2
    clear q2
    go_wp2
    go_ret2
    exact ⟨rfl, u2⟩
  · by_cases h6 : n = 6
    · subst h6
      have hS : sixB p l = true := by rw [HB.out, h1]; rfl
      rw [hS]
      obtain ⟨t0, t1, t2, t3, t4, t5, rfl, r0, r1, r2, r3, r4, r5, hp⟩ := sixB_true hS
      obtain ⟨p1, p2⟩ := isPr_range hp
      simp only [Bool.true_and]
      clear HB hS hp
      have HR := Lib.hid (And.intro r0 (And.intro r1 (And.intro r2 (And.intro r3 (And.intro r4 r5)))))
      clear r0 r1 r2 r3 r4 r5
      go_enter Try.func16, Try.ntmps16
      go_wp2_with fail
      refine (fpIn_any _ _ _ _ _ _ h).mono ?_; rintro e w2 ⟨rfl, q2⟩
      rw [h1]
      have u2 := below_of_quiet q2
      clear q2
      go_wp2_with fail
      refine (smFits_any p _ _ _ t0 t1 t2 t3 t4 t5 _ (h.below u2) (by omega) (by omega) HR.out.1 HR.out.2.1 HR.out.2.2.1 HR.out.2.2.2.1 HR.out.2.2.2.2.1 HR.out.2.2.2.2.2).mono ?_; rintro e w3 ⟨rfl, q3⟩
      have u3 := below_of_quiet q3
      clear q3
      go_wp2
      go_ret2
      exact ⟨rfl, u2.trans (u3.mono u2.size)⟩
    · have hS : sixB p l = false := by rw [HB.out, h1]; simp [h6]
      rw [hS]
      simp only [Bool.false_and]
      have f6 : (n : Int) ≠ 6 := by omega
      have f6' : (((n : Int) != 6) : Bool) = true := by simp; omega
      clear HB
      go_enter Try.func16, Try.ntmps16
      go_wp2_with fail
      refine (fpIn_any _ _ _ _ l _ h).mono ?_; rintro e w2 ⟨rfl, q2⟩
      rw [h1]
      have u2 := below_of_quiet q2
      clear q2
      go_wp2
      go_ret2
      exact ⟨rfl, u2⟩
end Go.Proofs.Ythpcmbdkboajcaa
