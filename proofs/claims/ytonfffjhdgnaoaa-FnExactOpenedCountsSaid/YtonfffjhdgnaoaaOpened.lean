/- Opened counts; the law over them. -/
import Derived.Test.YtonfffjhdgnaoaaField
namespace Go.Proofs.Ytonfffjhdgnaoaa
open Go.RowKit

def ocB (p x : Int) : Bool := isPr p && decide (x = 0 ∨ x = 1)
def ocL (p x : Int) : List Int := if ocB p x then [1, 1] else []
theorem ocL_len (p x : Int) : (ocL p x).length ≤ 1000000 := by unfold ocL; split <;> simp
theorem xor00 : bits BinOp.xor IntKind.i64 0 0 = 0 := by decide +kernel
theorem xor01 : bits BinOp.xor IntKind.i64 0 1 = 1 := by decide +kernel
theorem xor10 : bits BinOp.xor IntKind.i64 1 0 = 1 := by decide +kernel
theorem xor11 : bits BinOp.xor IntKind.i64 1 1 = 0 := by decide +kernel
set_option maxHeartbeats 1000000 in
theorem OpenedCounts_any (p x : Int) (w : World) :
    Calls Try.prog 31 #[.int .i64 p, .int .i64 x] w fun e w' => ∃ a n c, e = .returned (.tuple #[.slice a n c, .bool (ocB p x)]) ∧ Own w' w.heap.size a n c (ocL p x) ∧ Below w.heap.size w w' := by
  unfold ocL ocB
  cases hp : isPr p
  · simp only [Bool.false_and, Bool.false_eq_true, if_false]
    go_enter Try.func31, Try.ntmps31
    go_wp2_with (first | (go_at_call 51; refine (IsPrime_any _ _).mono ?_; rintro e w' ⟨rfl, m, rfl⟩))
    go_ret2
    exact ⟨_, _, _, rfl, Own.nil0 _ _ _, below_of_drewN _⟩
  · by_cases hx : x = 0 ∨ x = 1
    · rw [decide_eq_true hx]
      simp only [Bool.and_self, if_true]
      rcases hx with rfl | rfl
      all_goals
        have b00 := xor00
        have b01 := xor01
        have b10 := xor10
        have b11 := xor11
        go_enter Try.func31, Try.ntmps31
        go_wp2_with fail
        refine (IsPrime_any _ _).mono ?_; rintro e w1 ⟨rfl, q1⟩
        have u1 := below_of_quiet q1
        clear q1
        go_wp2
        go_rounds 3
        go_ret2
        exact ⟨_, _, _, rfl, Own.lit _ _ [1, 1] u1.size (by simp [maxLen]), u1.alloc u1.size _⟩
    · rw [decide_eq_false hx]
      simp only [Bool.and_false, Bool.false_eq_true, if_false]
      have h0 : ((x == 0) : Bool) = false := by simp; omega
      have h1 : ((x == 1) : Bool) = false := by simp; omega
      clear hx
      go_enter Try.func31, Try.ntmps31
      go_wp2_with (first | (go_at_call 51; refine (IsPrime_any _ _).mono ?_; rintro e w' ⟨rfl, m, rfl⟩) | go_in)
      go_ret2
      exact ⟨_, _, _, rfl, Own.nil0 _ _ _, below_of_drewN _⟩
set_option maxHeartbeats 1000000 in
theorem spec_OpenedCounts_any (p x : Int) (w : World) :
    Calls Try.prog 30 #[.int .i64 p, .int .i64 x] w fun e w' => ∃ a n c, e = .returned (.tuple #[.slice a n c, .bool (ocB p x)]) ∧ Own w' w.heap.size a n c (ocL p x) ∧ Below w.heap.size w w' := by
  unfold ocL ocB
  cases hp : isPr p
  · simp only [Bool.false_and, Bool.false_eq_true, if_false]
    go_enter Try.func30, Try.ntmps30
    go_wp2_with (first | (go_at_call 49; refine (fpGood_any _ _).mono ?_; rintro e w' ⟨rfl, m, rfl⟩))
    go_ret2
    exact ⟨_, _, _, rfl, Own.nil0 _ _ _, below_of_drewN _⟩
  · by_cases hx : x = 0 ∨ x = 1
    · rw [decide_eq_true hx]
      simp only [Bool.and_self, if_true]
      rcases hx with rfl | rfl
      all_goals
        have b00 := xor00
        have b01 := xor01
        have b10 := xor10
        have b11 := xor11
        have hmk : ∀ W, (Instr.makeSlice 29 (.int .i64 2) (.int .i64 2)).run Try.prog W = .ok (.slice (some ⟨W.heap.size, 0, none⟩) 2 2) (W.alloc (.cells #[.int .i64 0, .int .i64 0] 3)) := fun _ => by kernel_rfl
        go_enter Try.func30, Try.ntmps30
        go_wp2_with fail
        refine (fpGood_any _ _).mono ?_; rintro e w1 ⟨rfl, q1⟩
        have u1 := below_of_quiet q1
        clear q1
        go_wp2
        go_rounds 3
        go_ret2
        exact ⟨_, _, _, rfl, Own.lit _ _ [1, 1] u1.size (by simp [maxLen]), u1.alloc u1.size _⟩
    · rw [decide_eq_false hx]
      simp only [Bool.and_false, Bool.false_eq_true, if_false]
      have hx2 : x < 0 ∨ 1 < x := by omega
      clear hx
      have hb : (decide (0 ≤ x) && decide (x ≤ 1)) = false := by simp; omega
      have hb2 : 0 ≤ x → decide (x ≤ 1) = false := by intro _; simp; omega
      rcases hx2 with hx2 | hx2
      all_goals
        go_enter Try.func30, Try.ntmps30
        go_wp2_with (first | (go_at_call 49; refine (fpGood_any _ _).mono ?_; rintro e w' ⟨rfl, m, rfl⟩) | go_in)
        go_ret2
        exact ⟨_, _, _, rfl, Own.nil0 _ _ _, below_of_drewN _⟩
set_option maxHeartbeats 2000000 in
theorem FnExactOpenedCounts_walk (a0 : Int) (a1 : Int) (w : World) (_w0 : -9223372036854775808 ≤ a0 ∧ a0 ≤ 9223372036854775807) (_w1 : -9223372036854775808 ≤ a1 ∧ a1 ≤ 9223372036854775807) :
    Calls Try.prog 10 #[.int .i64 a0, .int .i64 a1] w fun e w' => e = .returned (.bool true) ∧ Below w.heap.size w w' := by
  go_enter Try.func10, Try.ntmps10
  go_wp2_with fail
  refine (spec_OpenedCounts_any _ _ _ ).mono ?_
  rintro e w1' ⟨r_a0, r_n0, r_c0, rfl, r0, u1⟩
  have V1 := u1
  clear u1
  have VB_g0 := V1.size
  go_wp2_with fail
  refine (OpenedCounts_any _ _ _ ).mono ?_
  rintro e w2' ⟨g_a0, g_n0, g_c0, rfl, g0, u2⟩
  have Dr0_g0 := r0.apart g0 (Nat.le_refl _)
  replace r0 := r0.below u2
  have V2 : Below w.heap.size w w2' := V1.trans (u2.mono V1.size)
  clear V1
  clear u2
  go_wp2_with fail
  refine (eqIntS_same _ _ _ _ _ _ _ _ g0.ints r0.ints).mono ?_
  rintro e w3' ⟨rfl, q3⟩
  have u3 := below_of_quiet q3
  clear q3
  replace r0 := r0.below u3
  replace g0 := g0.below u3
  have V3 : Below w.heap.size w w3' := V2.trans (u3.mono V2.size)
  clear V2
  clear u3
  have hlg0 : g_n0 ≤ 1000000 := by rw [g0.len]; exact ocL_len a0 a1
  go_wp2_with fail
  refine (markIntS_any _ _ _ _ _ _ _ g0 (by omega) (by have := hlg0; omega)).mono ?_
  rintro e w4' ⟨rfl, ⟨Lg0, mg0, Ug0⟩, G4⟩
  have HUg0 := Lib.hid Ug0
  clear Ug0
  replace r0 := r0.grown G4 Dr0_g0
  have u4 : Below w.heap.size w3' w4' := below_grownBy G4 V3.size (fun x hc hx => Nat.le_trans VB_g0 (mg0.range x hc hx).1)
  have V4 : Below w.heap.size w w4' := V3.trans u4
  clear V3 u4 G4 g0
  have g0 := mg0
  clear mg0
  go_wp2_with fail
  refine (heldIntS_any _ _ _ _ _ _ g0.ints HUg0.out (by omega) (by have := hlg0; omega)).mono ?_
  rintro e w5' ⟨rfl, q5⟩
  have u5 := below_of_quiet q5
  clear q5
  replace r0 := r0.below u5
  replace g0 := g0.below u5
  have V5 : Below w.heap.size w w5' := V4.trans (u5.mono V4.size)
  clear V4
  clear u5
  go_wp2_with fail
  refine (OpenedCounts_any _ _ _ ).mono ?_
  rintro e w6' ⟨h_a0, h_n0, h_c0, rfl, h0, u6⟩
  replace r0 := r0.below u6
  replace g0 := g0.below u6
  have V6 : Below w.heap.size w w6' := V5.trans (u6.mono V5.size)
  clear V5
  clear u6
  go_wp2_with fail
  refine (eqIntS_same _ _ _ _ _ _ _ _ h0.ints r0.ints).mono ?_
  rintro e w7' ⟨rfl, q7⟩
  have u7 := below_of_quiet q7
  clear q7
  replace r0 := r0.below u7
  replace g0 := g0.below u7
  replace h0 := h0.below u7
  have V7 : Below w.heap.size w w7' := V6.trans (u7.mono V6.size)
  clear V6
  clear u7
  go_wp2_with fail
  refine (heldIntS_any _ _ _ _ _ _ g0.ints HUg0.out (by omega) (by have := hlg0; omega)).mono ?_
  rintro e w8' ⟨rfl, q8⟩
  have u8 := below_of_quiet q8
  clear q8
  replace r0 := r0.below u8
  replace g0 := g0.below u8
  replace h0 := h0.below u8
  have V8 : Below w.heap.size w w8' := V7.trans (u8.mono V7.size)
  clear V7
  clear u8
  go_wp2
  go_ret
  exact ⟨rfl, V8⟩
end Go.Proofs.Ytonfffjhdgnaoaa
