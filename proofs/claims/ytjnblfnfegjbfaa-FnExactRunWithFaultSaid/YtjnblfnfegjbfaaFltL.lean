/- RunWithFault: the law. -/
import Derived.Test.YtjnblfnfegjbfaaFltI
import Derived.Test.YtjnblfnfegjbfaaFltS
namespace Go.Proofs.Ytjnblfnfegjbfaa
open Go.RowKit

set_option maxHeartbeats 8000000 in
set_option maxRecDepth 100000 in
theorem FnExactRunWithFault_walk (a0_0 : Int) (a0_1 : Int) (a0_2 : Int) (a0_3 : Option Addr) (n0_3 c0_3 : Nat) (l0_3 : List Int) (a0_4 : Option Addr) (n0_4 c0_4 : Nat) (l0_4 : List Int) (a1 : Int) (a2 : Option Addr) (n2 c2 : Nat) (l2 : List Int) (a3 : Option Addr) (n3 c3 : Nat) (l3 : List Int) (a4 : Int) (a5 : Int) (w : World) (_w0_0 : -9223372036854775808 ≤ a0_0 ∧ a0_0 ≤ 9223372036854775807) (_w0_1 : -9223372036854775808 ≤ a0_1 ∧ a0_1 ≤ 9223372036854775807) (_w0_2 : -9223372036854775808 ≤ a0_2 ∧ a0_2 ≤ 9223372036854775807) (z0_3 : Flat 3 w a0_3 n0_3 c0_3 l0_3) (_wf0_3 : Wf l0_3) (z0_4 : Ints w a0_4 n0_4 c0_4 l0_4) (_wf0_4 : Wf l0_4) (_w1 : -9223372036854775808 ≤ a1 ∧ a1 ≤ 9223372036854775807) (z2 : Ints w a2 n2 c2 l2) (_wf2 : Wf l2) (z3 : Ints w a3 n3 c3 l3) (_wf3 : Wf l3) (_w4 : -9223372036854775808 ≤ a4 ∧ a4 ≤ 9223372036854775807) (_w5 : -9223372036854775808 ≤ a5 ∧ a5 ≤ 9223372036854775807) :
    Calls Try.prog 8 #[.agg #[.int .i64 a0_0, .int .i64 a0_1, .int .i64 a0_2, .slice a0_3 n0_3 c0_3, .slice a0_4 n0_4 c0_4], .int .i64 a1, .slice a2 n2 c2, .slice a3 n3 c3, .int .i64 a4, .int .i64 a5] w fun e w' => e = .returned (.bool true) ∧ Below w.heap.size w w' := by
  by_cases hs2 : n2 ≤ 1048576
  · skip
    by_cases hs3 : n3 ≤ 1048576
    · skip
      have hn0_3 : (n0_3 : Int) ≤ 9223372036854775807 := z0_3.le
      have hn0_4 : (n0_4 : Int) ≤ 9223372036854775807 := z0_4.le
      by_cases ht0 : (n0_3 : Int) + (n0_4 : Int) ≤ 1048576
      · skip
        go_enter Try.func8, Try.ntmps8
        go_wp2_with fail
        have V_w1' : Below w.heap.size w (w.alloc (.cells #[.int .i64 a0_0, .int .i64 a0_1, .int .i64 a0_2, .slice a0_3 n0_3 c0_3, .slice a0_4 n0_4 c0_4] 25)) := (((Below.refl w.heap.size w)).alloc (by have := ((Below.refl w.heap.size w)).size; first | exact this | (simp; omega) | simp) _)
        have B_p0 : Blk (w.alloc (.cells #[.int .i64 a0_0, .int .i64 a0_1, .int .i64 a0_2, .slice a0_3 n0_3 c0_3, .slice a0_4 n0_4 c0_4] 25)) (w.heap.size) 25 #[.int .i64 a0_0, .int .i64 a0_1, .int .i64 a0_2, .slice a0_3 n0_3 c0_3, .slice a0_4 n0_4 c0_4] := Blk.new w 25 #[.int .i64 a0_0, .int .i64 a0_1, .int .i64 a0_2, .slice a0_3 n0_3 c0_3, .slice a0_4 n0_4 c0_4]
        have S_w1' : w.heap.size + 1 ≤ (w.alloc (.cells #[.int .i64 a0_0, .int .i64 a0_1, .int .i64 a0_2, .slice a0_3 n0_3 c0_3, .slice a0_4 n0_4 c0_4] 25)).heap.size := by simp
        generalize (w.alloc (.cells #[.int .i64 a0_0, .int .i64 a0_1, .int .i64 a0_2, .slice a0_3 n0_3 c0_3, .slice a0_4 n0_4 c0_4] 25)) = w1' at *
        refine (szArith_yes _ _ _ _ _ _ _ _ _ _ _ hn0_3 hn0_4 (by omega) (by omega)).mono ?_
        rintro e w2' ⟨rfl, u_w2'⟩
        replace B_p0 := B_p0.below u_w2'
        have V_w2' := V_w1'.trans (u_w2'.mono (V_w1').size)
        have S_w2' := u_w2'.size
        clear u_w2' V_w1'
        have e_p0_0 : w2'.cell? ⟨w.heap.size, 0, none⟩ = some (.int .i64 a0_0) := B_p0.cell 0
        have e_p0_1 : w2'.cell? ⟨w.heap.size, 1, none⟩ = some (.int .i64 a0_1) := B_p0.cell 1
        have e_p0_2 : w2'.cell? ⟨w.heap.size, 2, none⟩ = some (.int .i64 a0_2) := B_p0.cell 2
        have e_p0_3 : w2'.cell? ⟨w.heap.size, 3, none⟩ = some (.slice a0_3 n0_3 c0_3) := B_p0.cell 3
        have e_p0_4 : w2'.cell? ⟨w.heap.size, 4, none⟩ = some (.slice a0_4 n0_4 c0_4) := B_p0.cell 4
        go_wp2_with fail
        clear e_p0_0 e_p0_1 e_p0_2 e_p0_3 e_p0_4
        refine (toArith_any _ _ _ _ _ _ l0_3 _ _ _ l0_4 _ (z0_3.below V_w2') (z0_4.below V_w2') (by omega) (by omega)).mono ?_
        rintro e w3' ⟨y_a0_3, y_c0_3, y_a0_4, y_c0_4, rfl, y0_3, y0_4, dj_y0_3_0_4, u_w3'⟩
        replace B_p0 := B_p0.below u_w3'
        have V_w3' := V_w2'.trans (u_w3'.mono (V_w2').size)
        have S_w3' := u_w3'.size
        clear u_w3' V_w2'
        have Q_y0_3 := Lib.hid y0_3.feet
        have Q_y0_4 := Lib.hid y0_4.feet
        go_wp2_with fail
        refine (toIntS_any _ _ _ l2 _ (z2.below V_w3') hs2).mono ?_
        rintro e w4' ⟨y_a2, y_c2, rfl, y2, u_w4'⟩
        replace B_p0 := B_p0.below u_w4'
        replace y0_3 := y0_3.below u_w4'
        replace y0_4 := y0_4.below u_w4'
        have V_w4' := V_w3'.trans (u_w4'.mono (V_w3').size)
        have S_w4' := u_w4'.size
        clear u_w4' V_w3'
        have Q_y2 := Lib.hid y2.feet
        go_wp2_with fail
        refine (toIntS_any _ _ _ l3 _ (z3.below V_w4') hs3).mono ?_
        rintro e w5' ⟨y_a3, y_c3, rfl, y3, u_w5'⟩
        replace B_p0 := B_p0.below u_w5'
        replace y0_3 := y0_3.below u_w5'
        replace y0_4 := y0_4.below u_w5'
        replace y2 := y2.below u_w5'
        have V_w5' := V_w4'.trans (u_w5'.mono (V_w4').size)
        have S_w5' := u_w5'.size
        clear u_w5' V_w4'
        have Q_y3 := Lib.hid y3.feet
        go_wp2_with fail
        refine (spec_RunWithFault_any _ _ _ _ _ _ l0_3 _ _ _ l0_4 _ _ _ _ l2 _ _ _ l3 _ _ _ y0_3.flat y0_4.ints y2.ints y3.ints).mono ?_
        rintro e w6' ⟨r_a0, r_n0, r_c0, rfl, r0, u_w6'⟩
        replace B_p0 := B_p0.below u_w6'
        replace y0_3 := y0_3.below u_w6'
        replace y0_4 := y0_4.below u_w6'
        replace y2 := y2.below u_w6'
        replace y3 := y3.below u_w6'
        have V_w6' := V_w5'.trans (u_w6'.mono (V_w5').size)
        have S_w6' := u_w6'.size
        clear u_w6' V_w5'
        have Q_r0 := Lib.hid r0.feet
        clear y0_3
        clear y0_4
        clear y2
        clear y3
        have e_p0_0 : w6'.cell? ⟨w.heap.size, 0, none⟩ = some (.int .i64 a0_0) := B_p0.cell 0
        have e_p0_1 : w6'.cell? ⟨w.heap.size, 1, none⟩ = some (.int .i64 a0_1) := B_p0.cell 1
        have e_p0_2 : w6'.cell? ⟨w.heap.size, 2, none⟩ = some (.int .i64 a0_2) := B_p0.cell 2
        have e_p0_3 : w6'.cell? ⟨w.heap.size, 3, none⟩ = some (.slice a0_3 n0_3 c0_3) := B_p0.cell 3
        have e_p0_4 : w6'.cell? ⟨w.heap.size, 4, none⟩ = some (.slice a0_4 n0_4 c0_4) := B_p0.cell 4
        go_wp2_with fail
        clear e_p0_0 e_p0_1 e_p0_2 e_p0_3 e_p0_4
        refine (toArith_any _ _ _ _ _ _ l0_3 _ _ _ l0_4 _ (z0_3.below V_w6') (z0_4.below V_w6') (by omega) (by omega)).mono ?_
        rintro e w7' ⟨x_a0_3, x_c0_3, x_a0_4, x_c0_4, rfl, x0_3, x0_4, dj_x0_3_0_4, u_w7'⟩
        replace B_p0 := B_p0.below u_w7'
        replace r0 := r0.below u_w7'
        have V_w7' := V_w6'.trans (u_w7'.mono (V_w6').size)
        have S_w7' := u_w7'.size
        clear u_w7' V_w6'
        have Q_x0_3 := Lib.hid x0_3.feet
        have Q_x0_4 := Lib.hid x0_4.feet
        go_wp2_with fail
        have V_w8' : Below w.heap.size w (w7'.alloc (.cells #[.int .i64 a0_0, .int .i64 a0_1, .int .i64 a0_2, .slice x_a0_3 n0_3 x_c0_3, .slice x_a0_4 n0_4 x_c0_4] 31)) := ((V_w7').alloc (by have := (V_w7').size; first | exact this | (simp; omega) | simp) _)
        replace B_p0 := B_p0.alloc (.cells #[.int .i64 a0_0, .int .i64 a0_1, .int .i64 a0_2, .slice x_a0_3 n0_3 x_c0_3, .slice x_a0_4 n0_4 x_c0_4] 31)
        replace r0 := r0.alloc (.cells #[.int .i64 a0_0, .int .i64 a0_1, .int .i64 a0_2, .slice x_a0_3 n0_3 x_c0_3, .slice x_a0_4 n0_4 x_c0_4] 31)
        replace x0_3 := x0_3.alloc (.cells #[.int .i64 a0_0, .int .i64 a0_1, .int .i64 a0_2, .slice x_a0_3 n0_3 x_c0_3, .slice x_a0_4 n0_4 x_c0_4] 31)
        replace x0_4 := x0_4.alloc (.cells #[.int .i64 a0_0, .int .i64 a0_1, .int .i64 a0_2, .slice x_a0_3 n0_3 x_c0_3, .slice x_a0_4 n0_4 x_c0_4] 31)
        have B_x0 : Blk (w7'.alloc (.cells #[.int .i64 a0_0, .int .i64 a0_1, .int .i64 a0_2, .slice x_a0_3 n0_3 x_c0_3, .slice x_a0_4 n0_4 x_c0_4] 31)) (w7'.heap.size) 31 #[.int .i64 a0_0, .int .i64 a0_1, .int .i64 a0_2, .slice x_a0_3 n0_3 x_c0_3, .slice x_a0_4 n0_4 x_c0_4] := Blk.new w7' 31 #[.int .i64 a0_0, .int .i64 a0_1, .int .i64 a0_2, .slice x_a0_3 n0_3 x_c0_3, .slice x_a0_4 n0_4 x_c0_4]
        have S_w8' : w7'.heap.size + 1 ≤ (w7'.alloc (.cells #[.int .i64 a0_0, .int .i64 a0_1, .int .i64 a0_2, .slice x_a0_3 n0_3 x_c0_3, .slice x_a0_4 n0_4 x_c0_4] 31)).heap.size := by simp
        generalize (w7'.alloc (.cells #[.int .i64 a0_0, .int .i64 a0_1, .int .i64 a0_2, .slice x_a0_3 n0_3 x_c0_3, .slice x_a0_4 n0_4 x_c0_4] 31)) = w8' at *
        clear V_w7'
        refine (toIntS_any _ _ _ l2 _ (z2.below V_w8') hs2).mono ?_
        rintro e w9' ⟨x_a2, x_c2, rfl, x2, u_w9'⟩
        replace B_p0 := B_p0.below u_w9'
        replace B_x0 := B_x0.below u_w9'
        replace r0 := r0.below u_w9'
        replace x0_3 := x0_3.below u_w9'
        replace x0_4 := x0_4.below u_w9'
        have V_w9' := V_w8'.trans (u_w9'.mono (V_w8').size)
        have S_w9' := u_w9'.size
        clear u_w9' V_w8'
        have Q_x2 := Lib.hid x2.feet
        go_wp2_with fail
        refine (toIntS_any _ _ _ l3 _ (z3.below V_w9') hs3).mono ?_
        rintro e w10' ⟨x_a3, x_c3, rfl, x3, u_w10'⟩
        replace B_p0 := B_p0.below u_w10'
        replace B_x0 := B_x0.below u_w10'
        replace r0 := r0.below u_w10'
        replace x0_3 := x0_3.below u_w10'
        replace x0_4 := x0_4.below u_w10'
        replace x2 := x2.below u_w10'
        have V_w10' := V_w9'.trans (u_w10'.mono (V_w9').size)
        have S_w10' := u_w10'.size
        clear u_w10' V_w9'
        have Q_x3 := Lib.hid x3.feet
        have e_x0_0 : w10'.cell? ⟨w7'.heap.size, 0, none⟩ = some (.int .i64 a0_0) := B_x0.cell 0
        have e_x0_1 : w10'.cell? ⟨w7'.heap.size, 1, none⟩ = some (.int .i64 a0_1) := B_x0.cell 1
        have e_x0_2 : w10'.cell? ⟨w7'.heap.size, 2, none⟩ = some (.int .i64 a0_2) := B_x0.cell 2
        have e_x0_3 : w10'.cell? ⟨w7'.heap.size, 3, none⟩ = some (.slice x_a0_3 n0_3 x_c0_3) := B_x0.cell 3
        have e_x0_4 : w10'.cell? ⟨w7'.heap.size, 4, none⟩ = some (.slice x_a0_4 n0_4 x_c0_4) := B_x0.cell 4
        go_wp2_with fail
        clear e_x0_0 e_x0_1 e_x0_2 e_x0_3 e_x0_4
        refine (RunWithFault_any _ _ _ _ _ _ l0_3 _ _ _ l0_4 _ _ _ _ l2 _ _ _ l3 _ _ _ x0_3.flat x0_4.ints x2.ints x3.ints).mono ?_
        rintro e w11' ⟨g_a0, g_n0, g_c0, rfl, g0, u_w11'⟩
        replace B_p0 := B_p0.below u_w11'
        replace B_x0 := B_x0.below u_w11'
        replace r0 := r0.below u_w11'
        replace x0_3 := x0_3.below u_w11'
        replace x0_4 := x0_4.below u_w11'
        replace x2 := x2.below u_w11'
        replace x3 := x3.below u_w11'
        have V_w11' := V_w10'.trans (u_w11'.mono (V_w10').size)
        have S_w11' := u_w11'.size
        clear u_w11' V_w10'
        have Q_g0 := Lib.hid g0.feet
        go_wp2_with fail
        refine (eqIntS_b _ _ _ _ _ _ _ _ g0.ints r0.ints).mono ?_
        rintro e w12' ⟨rfl, u_w12'⟩
        replace B_p0 := B_p0.below u_w12'
        replace B_x0 := B_x0.below u_w12'
        replace r0 := r0.below u_w12'
        replace x0_3 := x0_3.below u_w12'
        replace x0_4 := x0_4.below u_w12'
        replace x2 := x2.below u_w12'
        replace x3 := x3.below u_w12'
        replace g0 := g0.below u_w12'
        have V_w12' := V_w11'.trans (u_w12'.mono (V_w11').size)
        have S_w12' := u_w12'.size
        clear u_w12' V_w11'
        have e_x0_0 : w12'.cell? ⟨w7'.heap.size, 0, none⟩ = some (.int .i64 a0_0) := B_x0.cell 0
        have e_x0_1 : w12'.cell? ⟨w7'.heap.size, 1, none⟩ = some (.int .i64 a0_1) := B_x0.cell 1
        have e_x0_2 : w12'.cell? ⟨w7'.heap.size, 2, none⟩ = some (.int .i64 a0_2) := B_x0.cell 2
        have e_x0_3 : w12'.cell? ⟨w7'.heap.size, 3, none⟩ = some (.slice x_a0_3 n0_3 x_c0_3) := B_x0.cell 3
        have e_x0_4 : w12'.cell? ⟨w7'.heap.size, 4, none⟩ = some (.slice x_a0_4 n0_4 x_c0_4) := B_x0.cell 4
        have e_p0_0 : w12'.cell? ⟨w.heap.size, 0, none⟩ = some (.int .i64 a0_0) := B_p0.cell 0
        have e_p0_1 : w12'.cell? ⟨w.heap.size, 1, none⟩ = some (.int .i64 a0_1) := B_p0.cell 1
        have e_p0_2 : w12'.cell? ⟨w.heap.size, 2, none⟩ = some (.int .i64 a0_2) := B_p0.cell 2
        have e_p0_3 : w12'.cell? ⟨w.heap.size, 3, none⟩ = some (.slice a0_3 n0_3 c0_3) := B_p0.cell 3
        have e_p0_4 : w12'.cell? ⟨w.heap.size, 4, none⟩ = some (.slice a0_4 n0_4 c0_4) := B_p0.cell 4
        go_wp2
        go_region_held3 (fun W => W.cell? ⟨w7'.heap.size, 0, none⟩ = some (.int .i64 a0_0) ∧ W.cell? ⟨w7'.heap.size, 1, none⟩ = some (.int .i64 a0_1) ∧ W.cell? ⟨w7'.heap.size, 2, none⟩ = some (.int .i64 a0_2) ∧ W.cell? ⟨w7'.heap.size, 3, none⟩ = some (.slice x_a0_3 n0_3 x_c0_3) ∧ W.cell? ⟨w7'.heap.size, 4, none⟩ = some (.slice x_a0_4 n0_4 x_c0_4) ∧ W.cell? ⟨w.heap.size, 0, none⟩ = some (.int .i64 a0_0) ∧ W.cell? ⟨w.heap.size, 1, none⟩ = some (.int .i64 a0_1) ∧ W.cell? ⟨w.heap.size, 2, none⟩ = some (.int .i64 a0_2) ∧ W.cell? ⟨w.heap.size, 3, none⟩ = some (.slice a0_3 n0_3 c0_3) ∧ W.cell? ⟨w.heap.size, 4, none⟩ = some (.slice a0_4 n0_4 c0_4))
          (first | go_keep | exact ⟨keepC tv (keepC tu e_x0_0), keepC tv (keepC tu e_x0_1), keepC tv (keepC tu e_x0_2), keepC tv (keepC tu e_x0_3), keepC tv (keepC tu e_x0_4), keepC tv (keepC tu e_p0_0), keepC tv (keepC tu e_p0_1), keepC tv (keepC tu e_p0_2), keepC tv (keepC tu e_p0_3), keepC tv (keepC tu e_p0_4)⟩ | exact ⟨keepC tu e_x0_0, keepC tu e_x0_1, keepC tu e_x0_2, keepC tu e_x0_3, keepC tu e_x0_4, keepC tu e_p0_0, keepC tu e_p0_1, keepC tu e_p0_2, keepC tu e_p0_3, keepC tu e_p0_4⟩)
          (first | (go_at_call 14; refine (toArith_any _ _ _ _ _ _ l0_3 _ _ _ l0_4 _ (z0_3.below V_w12'.drew) (z0_4.below V_w12'.drew) (by omega) (by omega)).mono ?_; rintro e wt ⟨t_a0_3, t_c0_3, t_a0_4, t_c0_4, rfl, t0_3, t0_4, _, tu⟩) | (go_at_call 17; refine (eqArith_same _ _ _ _ _ _ _ _ _ l0_3 _ _ _ _ _ _ l0_4 _ (x0_3.drew.below tu).flat t0_3.flat (x0_4.drew.below tu).ints t0_4.ints).mono ?_; rintro e wq ⟨rfl, tv⟩))
        have u_w13' : Below w12'.heap.size w12' wq := (Below.refl _ _).drew.trans (tu.trans (tv.mono tu.size))
        clear tu tv e_x0_0 e_x0_1 e_x0_2 e_x0_3 e_x0_4 e_p0_0 e_p0_1 e_p0_2 e_p0_3 e_p0_4 t0_3 t0_4
        replace B_p0 := B_p0.below u_w13'
        replace B_x0 := B_x0.below u_w13'
        replace r0 := r0.below u_w13'
        replace x0_3 := x0_3.below u_w13'
        replace x0_4 := x0_4.below u_w13'
        replace x2 := x2.below u_w13'
        replace x3 := x3.below u_w13'
        replace g0 := g0.below u_w13'
        have V_wq := V_w12'.trans (u_w13'.mono (V_w12').size)
        have S_wq := u_w13'.size
        clear u_w13' V_w12'
        generalize wq = w13' at *
        have V_w13' := V_wq
        clear V_wq
        have S_w13' := S_wq
        clear S_wq
        go_wp2_with fail
        refine (toIntS_any _ _ _ l2 _ (z2.below V_w13') hs2).mono ?_
        rintro e w14' ⟨t_a2, t_c2, rfl, t2, u_w14'⟩
        replace B_p0 := B_p0.below u_w14'
        replace B_x0 := B_x0.below u_w14'
        replace r0 := r0.below u_w14'
        replace x0_3 := x0_3.below u_w14'
        replace x0_4 := x0_4.below u_w14'
        replace x2 := x2.below u_w14'
        replace x3 := x3.below u_w14'
        replace g0 := g0.below u_w14'
        have V_w14' := V_w13'.trans (u_w14'.mono (V_w13').size)
        have S_w14' := u_w14'.size
        clear u_w14' V_w13'
        have Q_t2 := Lib.hid t2.feet
        go_wp2_with fail
        refine (eqIntS_b _ _ _ _ _ _ _ _ x2.ints t2.ints).mono ?_
        rintro e w15' ⟨rfl, u_w15'⟩
        replace B_p0 := B_p0.below u_w15'
        replace B_x0 := B_x0.below u_w15'
        replace r0 := r0.below u_w15'
        replace x0_3 := x0_3.below u_w15'
        replace x0_4 := x0_4.below u_w15'
        replace x2 := x2.below u_w15'
        replace x3 := x3.below u_w15'
        replace g0 := g0.below u_w15'
        replace t2 := t2.below u_w15'
        have V_w15' := V_w14'.trans (u_w15'.mono (V_w14').size)
        have S_w15' := u_w15'.size
        clear u_w15' V_w14'
        clear t2
        go_wp2_with fail
        refine (toIntS_any _ _ _ l3 _ (z3.below V_w15') hs3).mono ?_
        rintro e w16' ⟨t_a3, t_c3, rfl, t3, u_w16'⟩
        replace B_p0 := B_p0.below u_w16'
        replace B_x0 := B_x0.below u_w16'
        replace r0 := r0.below u_w16'
        replace x0_3 := x0_3.below u_w16'
        replace x0_4 := x0_4.below u_w16'
        replace x2 := x2.below u_w16'
        replace x3 := x3.below u_w16'
        replace g0 := g0.below u_w16'
        have V_w16' := V_w15'.trans (u_w16'.mono (V_w15').size)
        have S_w16' := u_w16'.size
        clear u_w16' V_w15'
        have Q_t3 := Lib.hid t3.feet
        go_wp2_with fail
        refine (eqIntS_b _ _ _ _ _ _ _ _ x3.ints t3.ints).mono ?_
        rintro e w17' ⟨rfl, u_w17'⟩
        replace B_p0 := B_p0.below u_w17'
        replace B_x0 := B_x0.below u_w17'
        replace r0 := r0.below u_w17'
        replace x0_3 := x0_3.below u_w17'
        replace x0_4 := x0_4.below u_w17'
        replace x2 := x2.below u_w17'
        replace x3 := x3.below u_w17'
        replace g0 := g0.below u_w17'
        replace t3 := t3.below u_w17'
        have V_w17' := V_w16'.trans (u_w17'.mono (V_w16').size)
        have S_w17' := u_w17'.size
        clear u_w17' V_w16'
        clear t3
        have e_x0_0 : w17'.cell? ⟨w7'.heap.size, 0, none⟩ = some (.int .i64 a0_0) := B_x0.cell 0
        have e_x0_1 : w17'.cell? ⟨w7'.heap.size, 1, none⟩ = some (.int .i64 a0_1) := B_x0.cell 1
        have e_x0_2 : w17'.cell? ⟨w7'.heap.size, 2, none⟩ = some (.int .i64 a0_2) := B_x0.cell 2
        have e_x0_3 : w17'.cell? ⟨w7'.heap.size, 3, none⟩ = some (.slice x_a0_3 n0_3 x_c0_3) := B_x0.cell 3
        have e_x0_4 : w17'.cell? ⟨w7'.heap.size, 4, none⟩ = some (.slice x_a0_4 n0_4 x_c0_4) := B_x0.cell 4
        go_wp2_with fail
        clear e_x0_0 e_x0_1 e_x0_2 e_x0_3 e_x0_4
        refine (markArith_any _ _ _ _ _ _ _ _ _ _ _ _ _ _ _ x0_3 x0_4 dj_x0_3_0_4 (by omega) (by omega)).mono ?_
        rintro e w18' ⟨rfl, ⟨L_x0_3, x0_3, U_x0_3⟩, ⟨L_x0_4, x0_4, U_x0_4⟩, G⟩
        replace U_x0_3 := Lib.hid U_x0_3
        replace U_x0_4 := Lib.hid U_x0_4
        have RG : ∀ k ∈ foot x_a0_3 x_c0_3 ++ foot x_a0_4 x_c0_4, k ∈ foot x_a0_3 x_c0_3 ∨ k ∈ foot x_a0_4 x_c0_4 := fun k hk => by
          simpa [or_assoc] using hk
        replace r0 := r0.only G (Disj.app (fun k hk hk' => by have := Q_r0.out k hk; have := Q_x0_3.out k hk'; omega) (fun k hk hk' => by have := Q_r0.out k hk; have := Q_x0_4.out k hk'; omega))
        replace x2 := x2.only G (Disj.app (fun k hk hk' => by have := Q_x2.out k hk; have := Q_x0_3.out k hk'; omega) (fun k hk hk' => by have := Q_x2.out k hk; have := Q_x0_4.out k hk'; omega))
        replace x3 := x3.only G (Disj.app (fun k hk hk' => by have := Q_x3.out k hk; have := Q_x0_3.out k hk'; omega) (fun k hk hk' => by have := Q_x3.out k hk; have := Q_x0_4.out k hk'; omega))
        replace g0 := g0.only G (Disj.app (fun k hk hk' => by have := Q_g0.out k hk; have := Q_x0_3.out k hk'; omega) (fun k hk hk' => by have := Q_g0.out k hk; have := Q_x0_4.out k hk'; omega))
        replace B_p0 := B_p0.only G (fun hm => by rcases RG _ hm with h | h <;> first | (have := Q_x0_3.out _ h; omega) | (have := Q_x0_4.out _ h; omega))
        replace B_x0 := B_x0.only G (fun hm => by rcases RG _ hm with h | h <;> first | (have := Q_x0_3.out _ h; omega) | (have := Q_x0_4.out _ h; omega))
        have V_w18' := V_w17'.trans (G.below V_w17'.size (fun k hm => by have := V_w17'.size; rcases RG _ hm with h | h <;> first | (have := Q_x0_3.out _ h; omega) | (have := Q_x0_4.out _ h; omega)))
        have S_w18' := G.size
        clear G RG V_w17'
        go_wp2_with fail
        refine (markIntS_o _ _ _ _ _ _ _ x2 (by omega) (by omega)).mono ?_
        rintro e w19' ⟨rfl, ⟨L_x2, x2, U_x2⟩, G⟩
        replace U_x2 := Lib.hid U_x2
        have RG : ∀ k ∈ foot x_a2 x_c2, k ∈ foot x_a2 x_c2 := fun k hk => by
          simpa [or_assoc] using hk
        replace r0 := r0.only G (fun k hk hk' => by have := Q_r0.out k hk; have := Q_x2.out k hk'; omega)
        replace x0_3 := x0_3.only G (fun k hk hk' => by have := Q_x0_3.out k hk; have := Q_x2.out k hk'; omega)
        replace x0_4 := x0_4.only G (fun k hk hk' => by have := Q_x0_4.out k hk; have := Q_x2.out k hk'; omega)
        replace x3 := x3.only G (fun k hk hk' => by have := Q_x3.out k hk; have := Q_x2.out k hk'; omega)
        replace g0 := g0.only G (fun k hk hk' => by have := Q_g0.out k hk; have := Q_x2.out k hk'; omega)
        replace B_p0 := B_p0.only G (fun hm => by rcases RG _ hm with h <;> first | (have := Q_x2.out _ h; omega))
        replace B_x0 := B_x0.only G (fun hm => by rcases RG _ hm with h <;> first | (have := Q_x2.out _ h; omega))
        have V_w19' := V_w18'.trans (G.below V_w18'.size (fun k hm => by have := V_w18'.size; rcases RG _ hm with h <;> first | (have := Q_x2.out _ h; omega)))
        have S_w19' := G.size
        clear G RG V_w18'
        go_wp2_with fail
        refine (markIntS_o _ _ _ _ _ _ _ x3 (by omega) (by omega)).mono ?_
        rintro e w20' ⟨rfl, ⟨L_x3, x3, U_x3⟩, G⟩
        replace U_x3 := Lib.hid U_x3
        have RG : ∀ k ∈ foot x_a3 x_c3, k ∈ foot x_a3 x_c3 := fun k hk => by
          simpa [or_assoc] using hk
        replace r0 := r0.only G (fun k hk hk' => by have := Q_r0.out k hk; have := Q_x3.out k hk'; omega)
        replace x0_3 := x0_3.only G (fun k hk hk' => by have := Q_x0_3.out k hk; have := Q_x3.out k hk'; omega)
        replace x0_4 := x0_4.only G (fun k hk hk' => by have := Q_x0_4.out k hk; have := Q_x3.out k hk'; omega)
        replace x2 := x2.only G (fun k hk hk' => by have := Q_x2.out k hk; have := Q_x3.out k hk'; omega)
        replace g0 := g0.only G (fun k hk hk' => by have := Q_g0.out k hk; have := Q_x3.out k hk'; omega)
        replace B_p0 := B_p0.only G (fun hm => by rcases RG _ hm with h <;> first | (have := Q_x3.out _ h; omega))
        replace B_x0 := B_x0.only G (fun hm => by rcases RG _ hm with h <;> first | (have := Q_x3.out _ h; omega))
        have V_w20' := V_w19'.trans (G.below V_w19'.size (fun k hm => by have := V_w19'.size; rcases RG _ hm with h <;> first | (have := Q_x3.out _ h; omega)))
        have S_w20' := G.size
        clear G RG V_w19'
        go_wp2_with fail
        refine (eqIntS_b _ _ _ _ _ _ _ _ g0.ints r0.ints).mono ?_
        rintro e w21' ⟨rfl, u_w21'⟩
        replace B_p0 := B_p0.below u_w21'
        replace B_x0 := B_x0.below u_w21'
        replace r0 := r0.below u_w21'
        replace x0_3 := x0_3.below u_w21'
        replace x0_4 := x0_4.below u_w21'
        replace x2 := x2.below u_w21'
        replace x3 := x3.below u_w21'
        replace g0 := g0.below u_w21'
        have V_w21' := V_w20'.trans (u_w21'.mono (V_w20').size)
        have S_w21' := u_w21'.size
        clear u_w21' V_w20'
        clear x0_3
        clear x0_4
        clear x2
        clear x3
        clear B_x0
        have hlg0 : g_n0 ≤ 1000000 := by rw [g0.len]; exact rfL_len a0_0 a0_1 a0_2 n0_3 l0_3 l0_4 a1 l2 l3 a4 a5
        go_wp2_with fail
        refine (markIntS_o _ _ _ _ _ _ _ g0 (by omega) (by omega)).mono ?_
        rintro e w22' ⟨rfl, ⟨L_g0, g0, U_g0⟩, G⟩
        replace U_g0 := Lib.hid U_g0
        have RG : ∀ k ∈ foot g_a0 g_c0, k ∈ foot g_a0 g_c0 := fun k hk => by
          simpa [or_assoc] using hk
        replace r0 := r0.only G (fun k hk hk' => by have := Q_r0.out k hk; have := Q_g0.out k hk'; omega)
        replace B_p0 := B_p0.only G (fun hm => by rcases RG _ hm with h <;> first | (have := Q_g0.out _ h; omega))
        have V_w22' := V_w21'.trans (G.below V_w21'.size (fun k hm => by have := V_w21'.size; rcases RG _ hm with h <;> first | (have := Q_g0.out _ h; omega)))
        have S_w22' := G.size
        clear G RG V_w21'
        go_wp2_with fail
        refine (heldIntS_b _ _ _ _ _ _ g0.ints U_g0.out (by omega) (by omega)).mono ?_
        rintro e w23' ⟨rfl, u_w23'⟩
        replace B_p0 := B_p0.below u_w23'
        replace r0 := r0.below u_w23'
        replace g0 := g0.below u_w23'
        have V_w23' := V_w22'.trans (u_w23'.mono (V_w22').size)
        have S_w23' := u_w23'.size
        clear u_w23' V_w22'
        have e_p0_0 : w23'.cell? ⟨w.heap.size, 0, none⟩ = some (.int .i64 a0_0) := B_p0.cell 0
        have e_p0_1 : w23'.cell? ⟨w.heap.size, 1, none⟩ = some (.int .i64 a0_1) := B_p0.cell 1
        have e_p0_2 : w23'.cell? ⟨w.heap.size, 2, none⟩ = some (.int .i64 a0_2) := B_p0.cell 2
        have e_p0_3 : w23'.cell? ⟨w.heap.size, 3, none⟩ = some (.slice a0_3 n0_3 c0_3) := B_p0.cell 3
        have e_p0_4 : w23'.cell? ⟨w.heap.size, 4, none⟩ = some (.slice a0_4 n0_4 c0_4) := B_p0.cell 4
        go_wp2_with fail
        clear e_p0_0 e_p0_1 e_p0_2 e_p0_3 e_p0_4
        refine (toArith_any _ _ _ _ _ _ l0_3 _ _ _ l0_4 _ (z0_3.below V_w23') (z0_4.below V_w23') (by omega) (by omega)).mono ?_
        rintro e w24' ⟨x_a0_3, x_c0_3, x_a0_4, x_c0_4, rfl, x0_3, x0_4, dj_x0_3_0_4, u_w24'⟩
        replace B_p0 := B_p0.below u_w24'
        replace r0 := r0.below u_w24'
        replace g0 := g0.below u_w24'
        have V_w24' := V_w23'.trans (u_w24'.mono (V_w23').size)
        have S_w24' := u_w24'.size
        clear u_w24' V_w23'
        have Q_x0_3 := Lib.hid x0_3.feet
        have Q_x0_4 := Lib.hid x0_4.feet
        go_wp2_with fail
        refine (toIntS_any _ _ _ l2 _ (z2.below V_w24') hs2).mono ?_
        rintro e w25' ⟨x_a2, x_c2, rfl, x2, u_w25'⟩
        replace B_p0 := B_p0.below u_w25'
        replace r0 := r0.below u_w25'
        replace g0 := g0.below u_w25'
        replace x0_3 := x0_3.below u_w25'
        replace x0_4 := x0_4.below u_w25'
        have V_w25' := V_w24'.trans (u_w25'.mono (V_w24').size)
        have S_w25' := u_w25'.size
        clear u_w25' V_w24'
        have Q_x2 := Lib.hid x2.feet
        go_wp2_with fail
        refine (toIntS_any _ _ _ l3 _ (z3.below V_w25') hs3).mono ?_
        rintro e w26' ⟨x_a3, x_c3, rfl, x3, u_w26'⟩
        replace B_p0 := B_p0.below u_w26'
        replace r0 := r0.below u_w26'
        replace g0 := g0.below u_w26'
        replace x0_3 := x0_3.below u_w26'
        replace x0_4 := x0_4.below u_w26'
        replace x2 := x2.below u_w26'
        have V_w26' := V_w25'.trans (u_w26'.mono (V_w25').size)
        have S_w26' := u_w26'.size
        clear u_w26' V_w25'
        have Q_x3 := Lib.hid x3.feet
        go_wp2_with fail
        refine (RunWithFault_any _ _ _ _ _ _ l0_3 _ _ _ l0_4 _ _ _ _ l2 _ _ _ l3 _ _ _ x0_3.flat x0_4.ints x2.ints x3.ints).mono ?_
        rintro e w27' ⟨h_a0, h_n0, h_c0, rfl, h0, u_w27'⟩
        replace B_p0 := B_p0.below u_w27'
        replace r0 := r0.below u_w27'
        replace g0 := g0.below u_w27'
        replace x0_3 := x0_3.below u_w27'
        replace x0_4 := x0_4.below u_w27'
        replace x2 := x2.below u_w27'
        replace x3 := x3.below u_w27'
        have V_w27' := V_w26'.trans (u_w27'.mono (V_w26').size)
        have S_w27' := u_w27'.size
        clear u_w27' V_w26'
        have Q_h0 := Lib.hid h0.feet
        clear x0_3
        clear x0_4
        clear x2
        clear x3
        go_wp2_with fail
        refine (eqIntS_b _ _ _ _ _ _ _ _ h0.ints r0.ints).mono ?_
        rintro e w28' ⟨rfl, u_w28'⟩
        replace B_p0 := B_p0.below u_w28'
        replace r0 := r0.below u_w28'
        replace g0 := g0.below u_w28'
        replace h0 := h0.below u_w28'
        have V_w28' := V_w27'.trans (u_w28'.mono (V_w27').size)
        have S_w28' := u_w28'.size
        clear u_w28' V_w27'
        go_wp2_with fail
        refine (heldIntS_b _ _ _ _ _ _ g0.ints U_g0.out (by omega) (by omega)).mono ?_
        rintro e w29' ⟨rfl, u_w29'⟩
        replace B_p0 := B_p0.below u_w29'
        replace r0 := r0.below u_w29'
        replace g0 := g0.below u_w29'
        replace h0 := h0.below u_w29'
        have V_w29' := V_w28'.trans (u_w29'.mono (V_w28').size)
        have S_w29' := u_w29'.size
        clear u_w29' V_w28'
        go_wp2
        go_ret
        exact ⟨rfl, V_w29'⟩
      · skip
        go_enter Try.func8, Try.ntmps8
        go_wp2_with fail
        have V_w30' : Below w.heap.size w (w.alloc (.cells #[.int .i64 a0_0, .int .i64 a0_1, .int .i64 a0_2, .slice a0_3 n0_3 c0_3, .slice a0_4 n0_4 c0_4] 25)) := (((Below.refl w.heap.size w)).alloc (by have := ((Below.refl w.heap.size w)).size; first | exact this | (simp; omega) | simp) _)
        have B_p0 : Blk (w.alloc (.cells #[.int .i64 a0_0, .int .i64 a0_1, .int .i64 a0_2, .slice a0_3 n0_3 c0_3, .slice a0_4 n0_4 c0_4] 25)) (w.heap.size) 25 #[.int .i64 a0_0, .int .i64 a0_1, .int .i64 a0_2, .slice a0_3 n0_3 c0_3, .slice a0_4 n0_4 c0_4] := Blk.new w 25 #[.int .i64 a0_0, .int .i64 a0_1, .int .i64 a0_2, .slice a0_3 n0_3 c0_3, .slice a0_4 n0_4 c0_4]
        have S_w30' : w.heap.size + 1 ≤ (w.alloc (.cells #[.int .i64 a0_0, .int .i64 a0_1, .int .i64 a0_2, .slice a0_3 n0_3 c0_3, .slice a0_4 n0_4 c0_4] 25)).heap.size := by simp
        generalize (w.alloc (.cells #[.int .i64 a0_0, .int .i64 a0_1, .int .i64 a0_2, .slice a0_3 n0_3 c0_3, .slice a0_4 n0_4 c0_4] 25)) = w30' at *
        refine (szArith_no _ _ _ _ _ _ _ _ _ _ _ hn0_3 hn0_4 (by omega) (by omega) (by omega)).mono ?_
        rintro e w31' ⟨rfl, u_w31'⟩
        replace B_p0 := B_p0.below u_w31'
        have V_w31' := V_w30'.trans (u_w31'.mono (V_w30').size)
        have S_w31' := u_w31'.size
        clear u_w31' V_w30'
        go_wp2
        go_ret
        exact ⟨rfl, V_w31'⟩
    · skip
      go_enter Try.func8, Try.ntmps8
      go_wp2
      go_ret
      exact ⟨rfl, ((Below.refl w.heap.size w).alloc (by simp) _)⟩
  · skip
    go_enter Try.func8, Try.ntmps8
    go_wp2
    go_ret
    exact ⟨rfl, ((Below.refl w.heap.size w).alloc (by simp) _)⟩
end Go.Proofs.Ytjnblfnfegjbfaa
