/- The laws on IsPlayer and OutputOf, walked. -/
import Derived.Test.YtlmdckcohoddnaaDoorTwo
namespace Go.Proofs.YtlmdckcohoddnaaDoor
open Go.RowKit
set_option maxHeartbeats 16000000 in
set_option maxRecDepth 100000 in
theorem FnExactIsPlayer_walk (a0 : Pl) (p0 : PlX) (w : World) (z0 : PlR w p0 a0.shares a0.keys a0.heard) (hT : Tbl w) :
    Calls Tryd.prog 3 #[.agg #[.int .i64 a0.P, .int .i64 a0.party, .int .i64 a0.input, .int .i64 a0.mask, .int .i64 a0.delta, .slice p0.sa p0.sn p0.sc, .slice p0.ka p0.kn p0.kc, .int .i64 a0.step, .slice p0.ha p0.hn p0.hc, .int .i64 a0.status, .int .i64 a0.out]] w fun e w' => e = .returned (.bool true) ∧ Below w.heap.size w w' := by
  have LX := Lib.hid hT
  clear hT
  have CS := fun (W : World) (x0 : PlX) => spec_IsPlayer_any a0 x0 W
  have CI := fun (W : World) (x0 : PlX) => IsPlayer_any a0 x0 W
  generalize plB a0 = d0_0 at CS CI
  replace CS := Lib.hid CS
  replace CI := Lib.hid CI
  by_cases ht0 : (szP p0 a0.shares a0.keys a0.heard : Int) ≤ 1048576
  · skip
    go_enter Tryd.func3, Tryd.ntmps3
    go_wp2_with fail
    have V_w1' : Below w.heap.size w (w.alloc (.cells #[.int .i64 a0.P, .int .i64 a0.party, .int .i64 a0.input, .int .i64 a0.mask, .int .i64 a0.delta, .slice p0.sa p0.sn p0.sc, .slice p0.ka p0.kn p0.kc, .int .i64 a0.step, .slice p0.ha p0.hn p0.hc, .int .i64 a0.status, .int .i64 a0.out] 26)) := (((Below.refl w.heap.size w)).alloc (by have := ((Below.refl w.heap.size w)).size; first | exact this | (simp; omega) | simp) _)
    have B_p0 : Blk (w.alloc (.cells #[.int .i64 a0.P, .int .i64 a0.party, .int .i64 a0.input, .int .i64 a0.mask, .int .i64 a0.delta, .slice p0.sa p0.sn p0.sc, .slice p0.ka p0.kn p0.kc, .int .i64 a0.step, .slice p0.ha p0.hn p0.hc, .int .i64 a0.status, .int .i64 a0.out] 26)) (w.heap.size) 26 #[.int .i64 a0.P, .int .i64 a0.party, .int .i64 a0.input, .int .i64 a0.mask, .int .i64 a0.delta, .slice p0.sa p0.sn p0.sc, .slice p0.ka p0.kn p0.kc, .int .i64 a0.step, .slice p0.ha p0.hn p0.hc, .int .i64 a0.status, .int .i64 a0.out] := Blk.new w 26 #[.int .i64 a0.P, .int .i64 a0.party, .int .i64 a0.input, .int .i64 a0.mask, .int .i64 a0.delta, .slice p0.sa p0.sn p0.sc, .slice p0.ka p0.kn p0.kc, .int .i64 a0.step, .slice p0.ha p0.hn p0.hc, .int .i64 a0.status, .int .i64 a0.out]
    have S_w1' : w.heap.size + 1 ≤ (w.alloc (.cells #[.int .i64 a0.P, .int .i64 a0.party, .int .i64 a0.input, .int .i64 a0.mask, .int .i64 a0.delta, .slice p0.sa p0.sn p0.sc, .slice p0.ka p0.kn p0.kc, .int .i64 a0.step, .slice p0.ha p0.hn p0.hc, .int .i64 a0.status, .int .i64 a0.out] 26)).heap.size := by simp
    generalize (w.alloc (.cells #[.int .i64 a0.P, .int .i64 a0.party, .int .i64 a0.input, .int .i64 a0.mask, .int .i64 a0.delta, .slice p0.sa p0.sn p0.sc, .slice p0.ka p0.kn p0.kc, .int .i64 a0.step, .slice p0.ha p0.hn p0.hc, .int .i64 a0.status, .int .i64 a0.out] 26)) = w1' at *
    refine (szPlayer_o_yes a0 p0 (1048576) _ (z0.below V_w1') (by omega) (by omega)).mono ?_
    rintro e w2' ⟨rfl, u_w2'⟩
    replace B_p0 := B_p0.below u_w2'
    have V_w2' := V_w1'.trans (u_w2'.mono (V_w1').size)
    have S_w2' := u_w2'.size
    clear u_w2' V_w1'
    have hcn0 := z0.cnt (by omega)
    replace ht0 : (szP p0 a0.shares a0.keys a0.heard : Int) ≤ 1048576 := by omega
    have e_p0_0 : w2'.cell? ⟨w.heap.size, 0, none⟩ = some (.int .i64 a0.P) := B_p0.cell 0
    have e_p0_1 : w2'.cell? ⟨w.heap.size, 1, none⟩ = some (.int .i64 a0.party) := B_p0.cell 1
    have e_p0_2 : w2'.cell? ⟨w.heap.size, 2, none⟩ = some (.int .i64 a0.input) := B_p0.cell 2
    have e_p0_3 : w2'.cell? ⟨w.heap.size, 3, none⟩ = some (.int .i64 a0.mask) := B_p0.cell 3
    have e_p0_4 : w2'.cell? ⟨w.heap.size, 4, none⟩ = some (.int .i64 a0.delta) := B_p0.cell 4
    have e_p0_5 : w2'.cell? ⟨w.heap.size, 5, none⟩ = some (.slice p0.sa p0.sn p0.sc) := B_p0.cell 5
    have e_p0_6 : w2'.cell? ⟨w.heap.size, 6, none⟩ = some (.slice p0.ka p0.kn p0.kc) := B_p0.cell 6
    have e_p0_7 : w2'.cell? ⟨w.heap.size, 7, none⟩ = some (.int .i64 a0.step) := B_p0.cell 7
    have e_p0_8 : w2'.cell? ⟨w.heap.size, 8, none⟩ = some (.slice p0.ha p0.hn p0.hc) := B_p0.cell 8
    have e_p0_9 : w2'.cell? ⟨w.heap.size, 9, none⟩ = some (.int .i64 a0.status) := B_p0.cell 9
    have e_p0_10 : w2'.cell? ⟨w.heap.size, 10, none⟩ = some (.int .i64 a0.out) := B_p0.cell 10
    go_wp2_with fail
    clear e_p0_0 e_p0_1 e_p0_2 e_p0_3 e_p0_4 e_p0_5 e_p0_6 e_p0_7 e_p0_8 e_p0_9 e_p0_10
    refine (toPlayer_o a0 p0 _ (z0.below V_w2') ht0).mono ?_
    rintro e w3' ⟨y0, F_y0, rfl, oy0, u_w3'⟩
    replace B_p0 := B_p0.below u_w3'
    have V_w3' := V_w2'.trans (u_w3'.mono (V_w2').size)
    have S_w3' := u_w3'.size
    clear u_w3' V_w2'
    have Q_oy0 := Lib.hid oy0.feet
    go_wp2_with fail
    refine (CS.out _ _ oy0.rd (LX.out.below V_w3')).mono ?_
    rintro e w4' ⟨rfl, u_w4'⟩
    replace B_p0 := B_p0.below u_w4'
    replace oy0 := oy0.below u_w4'
    have V_w4' := V_w3'.trans (u_w4'.mono (V_w3').size)
    have S_w4' := u_w4'.size
    clear u_w4' V_w3'
    clear oy0
    have e_p0_0 : w4'.cell? ⟨w.heap.size, 0, none⟩ = some (.int .i64 a0.P) := B_p0.cell 0
    have e_p0_1 : w4'.cell? ⟨w.heap.size, 1, none⟩ = some (.int .i64 a0.party) := B_p0.cell 1
    have e_p0_2 : w4'.cell? ⟨w.heap.size, 2, none⟩ = some (.int .i64 a0.input) := B_p0.cell 2
    have e_p0_3 : w4'.cell? ⟨w.heap.size, 3, none⟩ = some (.int .i64 a0.mask) := B_p0.cell 3
    have e_p0_4 : w4'.cell? ⟨w.heap.size, 4, none⟩ = some (.int .i64 a0.delta) := B_p0.cell 4
    have e_p0_5 : w4'.cell? ⟨w.heap.size, 5, none⟩ = some (.slice p0.sa p0.sn p0.sc) := B_p0.cell 5
    have e_p0_6 : w4'.cell? ⟨w.heap.size, 6, none⟩ = some (.slice p0.ka p0.kn p0.kc) := B_p0.cell 6
    have e_p0_7 : w4'.cell? ⟨w.heap.size, 7, none⟩ = some (.int .i64 a0.step) := B_p0.cell 7
    have e_p0_8 : w4'.cell? ⟨w.heap.size, 8, none⟩ = some (.slice p0.ha p0.hn p0.hc) := B_p0.cell 8
    have e_p0_9 : w4'.cell? ⟨w.heap.size, 9, none⟩ = some (.int .i64 a0.status) := B_p0.cell 9
    have e_p0_10 : w4'.cell? ⟨w.heap.size, 10, none⟩ = some (.int .i64 a0.out) := B_p0.cell 10
    go_wp2_with fail
    clear e_p0_0 e_p0_1 e_p0_2 e_p0_3 e_p0_4 e_p0_5 e_p0_6 e_p0_7 e_p0_8 e_p0_9 e_p0_10
    refine (toPlayer_o a0 p0 _ (z0.below V_w4') ht0).mono ?_
    rintro e w5' ⟨x0, F_x0, rfl, ox0, u_w5'⟩
    replace B_p0 := B_p0.below u_w5'
    have V_w5' := V_w4'.trans (u_w5'.mono (V_w4').size)
    have S_w5' := u_w5'.size
    clear u_w5' V_w4'
    have Q_ox0 := Lib.hid ox0.feet
    go_wp2_with fail
    have V_w6' : Below w.heap.size w (w5'.alloc (.cells #[.int .i64 a0.P, .int .i64 a0.party, .int .i64 a0.input, .int .i64 a0.mask, .int .i64 a0.delta, .slice x0.sa x0.sn x0.sc, .slice x0.ka x0.kn x0.kc, .int .i64 a0.step, .slice x0.ha x0.hn x0.hc, .int .i64 a0.status, .int .i64 a0.out] 31)) := ((V_w5').alloc (by have := (V_w5').size; first | exact this | (simp; omega) | simp) _)
    replace B_p0 := B_p0.alloc (.cells #[.int .i64 a0.P, .int .i64 a0.party, .int .i64 a0.input, .int .i64 a0.mask, .int .i64 a0.delta, .slice x0.sa x0.sn x0.sc, .slice x0.ka x0.kn x0.kc, .int .i64 a0.step, .slice x0.ha x0.hn x0.hc, .int .i64 a0.status, .int .i64 a0.out] 31)
    replace ox0 := ox0.alloc (.cells #[.int .i64 a0.P, .int .i64 a0.party, .int .i64 a0.input, .int .i64 a0.mask, .int .i64 a0.delta, .slice x0.sa x0.sn x0.sc, .slice x0.ka x0.kn x0.kc, .int .i64 a0.step, .slice x0.ha x0.hn x0.hc, .int .i64 a0.status, .int .i64 a0.out] 31)
    have B_x0 : Blk (w5'.alloc (.cells #[.int .i64 a0.P, .int .i64 a0.party, .int .i64 a0.input, .int .i64 a0.mask, .int .i64 a0.delta, .slice x0.sa x0.sn x0.sc, .slice x0.ka x0.kn x0.kc, .int .i64 a0.step, .slice x0.ha x0.hn x0.hc, .int .i64 a0.status, .int .i64 a0.out] 31)) (w5'.heap.size) 31 #[.int .i64 a0.P, .int .i64 a0.party, .int .i64 a0.input, .int .i64 a0.mask, .int .i64 a0.delta, .slice x0.sa x0.sn x0.sc, .slice x0.ka x0.kn x0.kc, .int .i64 a0.step, .slice x0.ha x0.hn x0.hc, .int .i64 a0.status, .int .i64 a0.out] := Blk.new w5' 31 #[.int .i64 a0.P, .int .i64 a0.party, .int .i64 a0.input, .int .i64 a0.mask, .int .i64 a0.delta, .slice x0.sa x0.sn x0.sc, .slice x0.ka x0.kn x0.kc, .int .i64 a0.step, .slice x0.ha x0.hn x0.hc, .int .i64 a0.status, .int .i64 a0.out]
    have S_w6' : w5'.heap.size + 1 ≤ (w5'.alloc (.cells #[.int .i64 a0.P, .int .i64 a0.party, .int .i64 a0.input, .int .i64 a0.mask, .int .i64 a0.delta, .slice x0.sa x0.sn x0.sc, .slice x0.ka x0.kn x0.kc, .int .i64 a0.step, .slice x0.ha x0.hn x0.hc, .int .i64 a0.status, .int .i64 a0.out] 31)).heap.size := by simp
    generalize (w5'.alloc (.cells #[.int .i64 a0.P, .int .i64 a0.party, .int .i64 a0.input, .int .i64 a0.mask, .int .i64 a0.delta, .slice x0.sa x0.sn x0.sc, .slice x0.ka x0.kn x0.kc, .int .i64 a0.step, .slice x0.ha x0.hn x0.hc, .int .i64 a0.status, .int .i64 a0.out] 31)) = w6' at *
    clear V_w5'
    refine (CI.out _ _ ox0.rd (LX.out.below V_w6')).mono ?_
    rintro e w7' ⟨rfl, u_w7'⟩
    replace B_p0 := B_p0.below u_w7'
    replace B_x0 := B_x0.below u_w7'
    replace ox0 := ox0.below u_w7'
    have V_w7' := V_w6'.trans (u_w7'.mono (V_w6').size)
    have S_w7' := u_w7'.size
    clear u_w7' V_w6'
    have e_x0_0 : w7'.cell? ⟨w5'.heap.size, 0, none⟩ = some (.int .i64 a0.P) := B_x0.cell 0
    have e_x0_1 : w7'.cell? ⟨w5'.heap.size, 1, none⟩ = some (.int .i64 a0.party) := B_x0.cell 1
    have e_x0_2 : w7'.cell? ⟨w5'.heap.size, 2, none⟩ = some (.int .i64 a0.input) := B_x0.cell 2
    have e_x0_3 : w7'.cell? ⟨w5'.heap.size, 3, none⟩ = some (.int .i64 a0.mask) := B_x0.cell 3
    have e_x0_4 : w7'.cell? ⟨w5'.heap.size, 4, none⟩ = some (.int .i64 a0.delta) := B_x0.cell 4
    have e_x0_5 : w7'.cell? ⟨w5'.heap.size, 5, none⟩ = some (.slice x0.sa x0.sn x0.sc) := B_x0.cell 5
    have e_x0_6 : w7'.cell? ⟨w5'.heap.size, 6, none⟩ = some (.slice x0.ka x0.kn x0.kc) := B_x0.cell 6
    have e_x0_7 : w7'.cell? ⟨w5'.heap.size, 7, none⟩ = some (.int .i64 a0.step) := B_x0.cell 7
    have e_x0_8 : w7'.cell? ⟨w5'.heap.size, 8, none⟩ = some (.slice x0.ha x0.hn x0.hc) := B_x0.cell 8
    have e_x0_9 : w7'.cell? ⟨w5'.heap.size, 9, none⟩ = some (.int .i64 a0.status) := B_x0.cell 9
    have e_x0_10 : w7'.cell? ⟨w5'.heap.size, 10, none⟩ = some (.int .i64 a0.out) := B_x0.cell 10
    have e_p0_0 : w7'.cell? ⟨w.heap.size, 0, none⟩ = some (.int .i64 a0.P) := B_p0.cell 0
    have e_p0_1 : w7'.cell? ⟨w.heap.size, 1, none⟩ = some (.int .i64 a0.party) := B_p0.cell 1
    have e_p0_2 : w7'.cell? ⟨w.heap.size, 2, none⟩ = some (.int .i64 a0.input) := B_p0.cell 2
    have e_p0_3 : w7'.cell? ⟨w.heap.size, 3, none⟩ = some (.int .i64 a0.mask) := B_p0.cell 3
    have e_p0_4 : w7'.cell? ⟨w.heap.size, 4, none⟩ = some (.int .i64 a0.delta) := B_p0.cell 4
    have e_p0_5 : w7'.cell? ⟨w.heap.size, 5, none⟩ = some (.slice p0.sa p0.sn p0.sc) := B_p0.cell 5
    have e_p0_6 : w7'.cell? ⟨w.heap.size, 6, none⟩ = some (.slice p0.ka p0.kn p0.kc) := B_p0.cell 6
    have e_p0_7 : w7'.cell? ⟨w.heap.size, 7, none⟩ = some (.int .i64 a0.step) := B_p0.cell 7
    have e_p0_8 : w7'.cell? ⟨w.heap.size, 8, none⟩ = some (.slice p0.ha p0.hn p0.hc) := B_p0.cell 8
    have e_p0_9 : w7'.cell? ⟨w.heap.size, 9, none⟩ = some (.int .i64 a0.status) := B_p0.cell 9
    have e_p0_10 : w7'.cell? ⟨w.heap.size, 10, none⟩ = some (.int .i64 a0.out) := B_p0.cell 10
    go_wp2
    go_region_held3 (fun W => W.cell? ⟨w5'.heap.size, 0, none⟩ = some (.int .i64 a0.P) ∧ W.cell? ⟨w5'.heap.size, 1, none⟩ = some (.int .i64 a0.party) ∧ W.cell? ⟨w5'.heap.size, 2, none⟩ = some (.int .i64 a0.input) ∧ W.cell? ⟨w5'.heap.size, 3, none⟩ = some (.int .i64 a0.mask) ∧ W.cell? ⟨w5'.heap.size, 4, none⟩ = some (.int .i64 a0.delta) ∧ W.cell? ⟨w5'.heap.size, 5, none⟩ = some (.slice x0.sa x0.sn x0.sc) ∧ W.cell? ⟨w5'.heap.size, 6, none⟩ = some (.slice x0.ka x0.kn x0.kc) ∧ W.cell? ⟨w5'.heap.size, 7, none⟩ = some (.int .i64 a0.step) ∧ W.cell? ⟨w5'.heap.size, 8, none⟩ = some (.slice x0.ha x0.hn x0.hc) ∧ W.cell? ⟨w5'.heap.size, 9, none⟩ = some (.int .i64 a0.status) ∧ W.cell? ⟨w5'.heap.size, 10, none⟩ = some (.int .i64 a0.out) ∧ W.cell? ⟨w.heap.size, 0, none⟩ = some (.int .i64 a0.P) ∧ W.cell? ⟨w.heap.size, 1, none⟩ = some (.int .i64 a0.party) ∧ W.cell? ⟨w.heap.size, 2, none⟩ = some (.int .i64 a0.input) ∧ W.cell? ⟨w.heap.size, 3, none⟩ = some (.int .i64 a0.mask) ∧ W.cell? ⟨w.heap.size, 4, none⟩ = some (.int .i64 a0.delta) ∧ W.cell? ⟨w.heap.size, 5, none⟩ = some (.slice p0.sa p0.sn p0.sc) ∧ W.cell? ⟨w.heap.size, 6, none⟩ = some (.slice p0.ka p0.kn p0.kc) ∧ W.cell? ⟨w.heap.size, 7, none⟩ = some (.int .i64 a0.step) ∧ W.cell? ⟨w.heap.size, 8, none⟩ = some (.slice p0.ha p0.hn p0.hc) ∧ W.cell? ⟨w.heap.size, 9, none⟩ = some (.int .i64 a0.status) ∧ W.cell? ⟨w.heap.size, 10, none⟩ = some (.int .i64 a0.out))
      (first | go_keep | exact ⟨keepC tv (keepC tu e_x0_0), keepC tv (keepC tu e_x0_1), keepC tv (keepC tu e_x0_2), keepC tv (keepC tu e_x0_3), keepC tv (keepC tu e_x0_4), keepC tv (keepC tu e_x0_5), keepC tv (keepC tu e_x0_6), keepC tv (keepC tu e_x0_7), keepC tv (keepC tu e_x0_8), keepC tv (keepC tu e_x0_9), keepC tv (keepC tu e_x0_10), keepC tv (keepC tu e_p0_0), keepC tv (keepC tu e_p0_1), keepC tv (keepC tu e_p0_2), keepC tv (keepC tu e_p0_3), keepC tv (keepC tu e_p0_4), keepC tv (keepC tu e_p0_5), keepC tv (keepC tu e_p0_6), keepC tv (keepC tu e_p0_7), keepC tv (keepC tu e_p0_8), keepC tv (keepC tu e_p0_9), keepC tv (keepC tu e_p0_10)⟩ | exact ⟨keepC tu e_x0_0, keepC tu e_x0_1, keepC tu e_x0_2, keepC tu e_x0_3, keepC tu e_x0_4, keepC tu e_x0_5, keepC tu e_x0_6, keepC tu e_x0_7, keepC tu e_x0_8, keepC tu e_x0_9, keepC tu e_x0_10, keepC tu e_p0_0, keepC tu e_p0_1, keepC tu e_p0_2, keepC tu e_p0_3, keepC tu e_p0_4, keepC tu e_p0_5, keepC tu e_p0_6, keepC tu e_p0_7, keepC tu e_p0_8, keepC tu e_p0_9, keepC tu e_p0_10⟩)
      (first | (go_at_call 15; refine (toPlayer_o a0 p0 _ (z0.below V_w7'.drew) ht0).mono ?_; rintro e wt ⟨t0, F_t0, rfl, ot0, tu⟩) | (go_at_call 17; refine (eqPlayer_o a0 _ _ _ (ox0.drew.below tu).rd ot0.rd).mono ?_; rintro e wq ⟨rfl, tv⟩))
    have u_w8' : Below w7'.heap.size w7' wq := (Below.refl _ _).drew.trans (tu.trans (tv.mono tu.size))
    clear tu tv e_x0_0 e_x0_1 e_x0_2 e_x0_3 e_x0_4 e_x0_5 e_x0_6 e_x0_7 e_x0_8 e_x0_9 e_x0_10 e_p0_0 e_p0_1 e_p0_2 e_p0_3 e_p0_4 e_p0_5 e_p0_6 e_p0_7 e_p0_8 e_p0_9 e_p0_10 ot0
    replace B_p0 := B_p0.below u_w8'
    replace B_x0 := B_x0.below u_w8'
    replace ox0 := ox0.below u_w8'
    have V_wq := V_w7'.trans (u_w8'.mono (V_w7').size)
    have S_wq := u_w8'.size
    clear u_w8' V_w7'
    generalize wq = w8' at *
    have V_w8' := V_wq
    clear V_wq
    have S_w8' := S_wq
    clear S_wq
    go_wp2
    go_ret
    exact ⟨rfl, V_w8'⟩
  · skip
    go_enter Tryd.func3, Tryd.ntmps3
    go_wp2_with fail
    have V_w9' : Below w.heap.size w (w.alloc (.cells #[.int .i64 a0.P, .int .i64 a0.party, .int .i64 a0.input, .int .i64 a0.mask, .int .i64 a0.delta, .slice p0.sa p0.sn p0.sc, .slice p0.ka p0.kn p0.kc, .int .i64 a0.step, .slice p0.ha p0.hn p0.hc, .int .i64 a0.status, .int .i64 a0.out] 26)) := (((Below.refl w.heap.size w)).alloc (by have := ((Below.refl w.heap.size w)).size; first | exact this | (simp; omega) | simp) _)
    have B_p0 : Blk (w.alloc (.cells #[.int .i64 a0.P, .int .i64 a0.party, .int .i64 a0.input, .int .i64 a0.mask, .int .i64 a0.delta, .slice p0.sa p0.sn p0.sc, .slice p0.ka p0.kn p0.kc, .int .i64 a0.step, .slice p0.ha p0.hn p0.hc, .int .i64 a0.status, .int .i64 a0.out] 26)) (w.heap.size) 26 #[.int .i64 a0.P, .int .i64 a0.party, .int .i64 a0.input, .int .i64 a0.mask, .int .i64 a0.delta, .slice p0.sa p0.sn p0.sc, .slice p0.ka p0.kn p0.kc, .int .i64 a0.step, .slice p0.ha p0.hn p0.hc, .int .i64 a0.status, .int .i64 a0.out] := Blk.new w 26 #[.int .i64 a0.P, .int .i64 a0.party, .int .i64 a0.input, .int .i64 a0.mask, .int .i64 a0.delta, .slice p0.sa p0.sn p0.sc, .slice p0.ka p0.kn p0.kc, .int .i64 a0.step, .slice p0.ha p0.hn p0.hc, .int .i64 a0.status, .int .i64 a0.out]
    have S_w9' : w.heap.size + 1 ≤ (w.alloc (.cells #[.int .i64 a0.P, .int .i64 a0.party, .int .i64 a0.input, .int .i64 a0.mask, .int .i64 a0.delta, .slice p0.sa p0.sn p0.sc, .slice p0.ka p0.kn p0.kc, .int .i64 a0.step, .slice p0.ha p0.hn p0.hc, .int .i64 a0.status, .int .i64 a0.out] 26)).heap.size := by simp
    generalize (w.alloc (.cells #[.int .i64 a0.P, .int .i64 a0.party, .int .i64 a0.input, .int .i64 a0.mask, .int .i64 a0.delta, .slice p0.sa p0.sn p0.sc, .slice p0.ka p0.kn p0.kc, .int .i64 a0.step, .slice p0.ha p0.hn p0.hc, .int .i64 a0.status, .int .i64 a0.out] 26)) = w9' at *
    refine (szPlayer_o_no a0 p0 (1048576) _ (z0.below V_w9') (by omega) (by omega) (by omega)).mono ?_
    rintro e w10' ⟨rfl, u_w10'⟩
    replace B_p0 := B_p0.below u_w10'
    have V_w10' := V_w9'.trans (u_w10'.mono (V_w9').size)
    have S_w10' := u_w10'.size
    clear u_w10' V_w9'
    go_wp2
    go_ret
    exact ⟨rfl, V_w10'⟩
set_option maxHeartbeats 16000000 in
set_option maxRecDepth 100000 in
theorem FnExactOutputOf_walk (a0 : Pl) (p0 : PlX) (w : World) (z0 : PlR w p0 a0.shares a0.keys a0.heard) (hT : Tbl w) :
    Calls Tryd.prog 4 #[.agg #[.int .i64 a0.P, .int .i64 a0.party, .int .i64 a0.input, .int .i64 a0.mask, .int .i64 a0.delta, .slice p0.sa p0.sn p0.sc, .slice p0.ka p0.kn p0.kc, .int .i64 a0.step, .slice p0.ha p0.hn p0.hc, .int .i64 a0.status, .int .i64 a0.out]] w fun e w' => e = .returned (.bool true) ∧ Below w.heap.size w w' := by
  have LX := Lib.hid hT
  clear hT
  have CS := fun (W : World) (x0 : PlX) => spec_OutputOf_any a0 x0 W
  have CI := fun (W : World) (x0 : PlX) => OutputOf_any a0 x0 W
  generalize ooV a0 = d0_0 at CS CI
  generalize ooB a0 = d1_0 at CS CI
  replace CS := Lib.hid CS
  replace CI := Lib.hid CI
  by_cases ht0 : (szP p0 a0.shares a0.keys a0.heard : Int) ≤ 1048576
  · skip
    go_enter Tryd.func4, Tryd.ntmps4
    go_wp2_with fail
    have V_w1' : Below w.heap.size w (w.alloc (.cells #[.int .i64 a0.P, .int .i64 a0.party, .int .i64 a0.input, .int .i64 a0.mask, .int .i64 a0.delta, .slice p0.sa p0.sn p0.sc, .slice p0.ka p0.kn p0.kc, .int .i64 a0.step, .slice p0.ha p0.hn p0.hc, .int .i64 a0.status, .int .i64 a0.out] 26)) := (((Below.refl w.heap.size w)).alloc (by have := ((Below.refl w.heap.size w)).size; first | exact this | (simp; omega) | simp) _)
    have B_p0 : Blk (w.alloc (.cells #[.int .i64 a0.P, .int .i64 a0.party, .int .i64 a0.input, .int .i64 a0.mask, .int .i64 a0.delta, .slice p0.sa p0.sn p0.sc, .slice p0.ka p0.kn p0.kc, .int .i64 a0.step, .slice p0.ha p0.hn p0.hc, .int .i64 a0.status, .int .i64 a0.out] 26)) (w.heap.size) 26 #[.int .i64 a0.P, .int .i64 a0.party, .int .i64 a0.input, .int .i64 a0.mask, .int .i64 a0.delta, .slice p0.sa p0.sn p0.sc, .slice p0.ka p0.kn p0.kc, .int .i64 a0.step, .slice p0.ha p0.hn p0.hc, .int .i64 a0.status, .int .i64 a0.out] := Blk.new w 26 #[.int .i64 a0.P, .int .i64 a0.party, .int .i64 a0.input, .int .i64 a0.mask, .int .i64 a0.delta, .slice p0.sa p0.sn p0.sc, .slice p0.ka p0.kn p0.kc, .int .i64 a0.step, .slice p0.ha p0.hn p0.hc, .int .i64 a0.status, .int .i64 a0.out]
    have S_w1' : w.heap.size + 1 ≤ (w.alloc (.cells #[.int .i64 a0.P, .int .i64 a0.party, .int .i64 a0.input, .int .i64 a0.mask, .int .i64 a0.delta, .slice p0.sa p0.sn p0.sc, .slice p0.ka p0.kn p0.kc, .int .i64 a0.step, .slice p0.ha p0.hn p0.hc, .int .i64 a0.status, .int .i64 a0.out] 26)).heap.size := by simp
    generalize (w.alloc (.cells #[.int .i64 a0.P, .int .i64 a0.party, .int .i64 a0.input, .int .i64 a0.mask, .int .i64 a0.delta, .slice p0.sa p0.sn p0.sc, .slice p0.ka p0.kn p0.kc, .int .i64 a0.step, .slice p0.ha p0.hn p0.hc, .int .i64 a0.status, .int .i64 a0.out] 26)) = w1' at *
    refine (szPlayer_o_yes a0 p0 (1048576) _ (z0.below V_w1') (by omega) (by omega)).mono ?_
    rintro e w2' ⟨rfl, u_w2'⟩
    replace B_p0 := B_p0.below u_w2'
    have V_w2' := V_w1'.trans (u_w2'.mono (V_w1').size)
    have S_w2' := u_w2'.size
    clear u_w2' V_w1'
    have hcn0 := z0.cnt (by omega)
    replace ht0 : (szP p0 a0.shares a0.keys a0.heard : Int) ≤ 1048576 := by omega
    have e_p0_0 : w2'.cell? ⟨w.heap.size, 0, none⟩ = some (.int .i64 a0.P) := B_p0.cell 0
    have e_p0_1 : w2'.cell? ⟨w.heap.size, 1, none⟩ = some (.int .i64 a0.party) := B_p0.cell 1
    have e_p0_2 : w2'.cell? ⟨w.heap.size, 2, none⟩ = some (.int .i64 a0.input) := B_p0.cell 2
    have e_p0_3 : w2'.cell? ⟨w.heap.size, 3, none⟩ = some (.int .i64 a0.mask) := B_p0.cell 3
    have e_p0_4 : w2'.cell? ⟨w.heap.size, 4, none⟩ = some (.int .i64 a0.delta) := B_p0.cell 4
    have e_p0_5 : w2'.cell? ⟨w.heap.size, 5, none⟩ = some (.slice p0.sa p0.sn p0.sc) := B_p0.cell 5
    have e_p0_6 : w2'.cell? ⟨w.heap.size, 6, none⟩ = some (.slice p0.ka p0.kn p0.kc) := B_p0.cell 6
    have e_p0_7 : w2'.cell? ⟨w.heap.size, 7, none⟩ = some (.int .i64 a0.step) := B_p0.cell 7
    have e_p0_8 : w2'.cell? ⟨w.heap.size, 8, none⟩ = some (.slice p0.ha p0.hn p0.hc) := B_p0.cell 8
    have e_p0_9 : w2'.cell? ⟨w.heap.size, 9, none⟩ = some (.int .i64 a0.status) := B_p0.cell 9
    have e_p0_10 : w2'.cell? ⟨w.heap.size, 10, none⟩ = some (.int .i64 a0.out) := B_p0.cell 10
    go_wp2_with fail
    clear e_p0_0 e_p0_1 e_p0_2 e_p0_3 e_p0_4 e_p0_5 e_p0_6 e_p0_7 e_p0_8 e_p0_9 e_p0_10
    refine (toPlayer_o a0 p0 _ (z0.below V_w2') ht0).mono ?_
    rintro e w3' ⟨y0, F_y0, rfl, oy0, u_w3'⟩
    replace B_p0 := B_p0.below u_w3'
    have V_w3' := V_w2'.trans (u_w3'.mono (V_w2').size)
    have S_w3' := u_w3'.size
    clear u_w3' V_w2'
    have Q_oy0 := Lib.hid oy0.feet
    go_wp2_with fail
    refine (CS.out _ _ oy0.rd (LX.out.below V_w3')).mono ?_
    rintro e w4' ⟨rfl, u_w4'⟩
    replace B_p0 := B_p0.below u_w4'
    replace oy0 := oy0.below u_w4'
    have V_w4' := V_w3'.trans (u_w4'.mono (V_w3').size)
    have S_w4' := u_w4'.size
    clear u_w4' V_w3'
    clear oy0
    have e_p0_0 : w4'.cell? ⟨w.heap.size, 0, none⟩ = some (.int .i64 a0.P) := B_p0.cell 0
    have e_p0_1 : w4'.cell? ⟨w.heap.size, 1, none⟩ = some (.int .i64 a0.party) := B_p0.cell 1
    have e_p0_2 : w4'.cell? ⟨w.heap.size, 2, none⟩ = some (.int .i64 a0.input) := B_p0.cell 2
    have e_p0_3 : w4'.cell? ⟨w.heap.size, 3, none⟩ = some (.int .i64 a0.mask) := B_p0.cell 3
    have e_p0_4 : w4'.cell? ⟨w.heap.size, 4, none⟩ = some (.int .i64 a0.delta) := B_p0.cell 4
    have e_p0_5 : w4'.cell? ⟨w.heap.size, 5, none⟩ = some (.slice p0.sa p0.sn p0.sc) := B_p0.cell 5
    have e_p0_6 : w4'.cell? ⟨w.heap.size, 6, none⟩ = some (.slice p0.ka p0.kn p0.kc) := B_p0.cell 6
    have e_p0_7 : w4'.cell? ⟨w.heap.size, 7, none⟩ = some (.int .i64 a0.step) := B_p0.cell 7
    have e_p0_8 : w4'.cell? ⟨w.heap.size, 8, none⟩ = some (.slice p0.ha p0.hn p0.hc) := B_p0.cell 8
    have e_p0_9 : w4'.cell? ⟨w.heap.size, 9, none⟩ = some (.int .i64 a0.status) := B_p0.cell 9
    have e_p0_10 : w4'.cell? ⟨w.heap.size, 10, none⟩ = some (.int .i64 a0.out) := B_p0.cell 10
    go_wp2_with fail
    clear e_p0_0 e_p0_1 e_p0_2 e_p0_3 e_p0_4 e_p0_5 e_p0_6 e_p0_7 e_p0_8 e_p0_9 e_p0_10
    refine (toPlayer_o a0 p0 _ (z0.below V_w4') ht0).mono ?_
    rintro e w5' ⟨x0, F_x0, rfl, ox0, u_w5'⟩
    replace B_p0 := B_p0.below u_w5'
    have V_w5' := V_w4'.trans (u_w5'.mono (V_w4').size)
    have S_w5' := u_w5'.size
    clear u_w5' V_w4'
    have Q_ox0 := Lib.hid ox0.feet
    go_wp2_with fail
    have V_w6' : Below w.heap.size w (w5'.alloc (.cells #[.int .i64 a0.P, .int .i64 a0.party, .int .i64 a0.input, .int .i64 a0.mask, .int .i64 a0.delta, .slice x0.sa x0.sn x0.sc, .slice x0.ka x0.kn x0.kc, .int .i64 a0.step, .slice x0.ha x0.hn x0.hc, .int .i64 a0.status, .int .i64 a0.out] 31)) := ((V_w5').alloc (by have := (V_w5').size; first | exact this | (simp; omega) | simp) _)
    replace B_p0 := B_p0.alloc (.cells #[.int .i64 a0.P, .int .i64 a0.party, .int .i64 a0.input, .int .i64 a0.mask, .int .i64 a0.delta, .slice x0.sa x0.sn x0.sc, .slice x0.ka x0.kn x0.kc, .int .i64 a0.step, .slice x0.ha x0.hn x0.hc, .int .i64 a0.status, .int .i64 a0.out] 31)
    replace ox0 := ox0.alloc (.cells #[.int .i64 a0.P, .int .i64 a0.party, .int .i64 a0.input, .int .i64 a0.mask, .int .i64 a0.delta, .slice x0.sa x0.sn x0.sc, .slice x0.ka x0.kn x0.kc, .int .i64 a0.step, .slice x0.ha x0.hn x0.hc, .int .i64 a0.status, .int .i64 a0.out] 31)
    have B_x0 : Blk (w5'.alloc (.cells #[.int .i64 a0.P, .int .i64 a0.party, .int .i64 a0.input, .int .i64 a0.mask, .int .i64 a0.delta, .slice x0.sa x0.sn x0.sc, .slice x0.ka x0.kn x0.kc, .int .i64 a0.step, .slice x0.ha x0.hn x0.hc, .int .i64 a0.status, .int .i64 a0.out] 31)) (w5'.heap.size) 31 #[.int .i64 a0.P, .int .i64 a0.party, .int .i64 a0.input, .int .i64 a0.mask, .int .i64 a0.delta, .slice x0.sa x0.sn x0.sc, .slice x0.ka x0.kn x0.kc, .int .i64 a0.step, .slice x0.ha x0.hn x0.hc, .int .i64 a0.status, .int .i64 a0.out] := Blk.new w5' 31 #[.int .i64 a0.P, .int .i64 a0.party, .int .i64 a0.input, .int .i64 a0.mask, .int .i64 a0.delta, .slice x0.sa x0.sn x0.sc, .slice x0.ka x0.kn x0.kc, .int .i64 a0.step, .slice x0.ha x0.hn x0.hc, .int .i64 a0.status, .int .i64 a0.out]
    have S_w6' : w5'.heap.size + 1 ≤ (w5'.alloc (.cells #[.int .i64 a0.P, .int .i64 a0.party, .int .i64 a0.input, .int .i64 a0.mask, .int .i64 a0.delta, .slice x0.sa x0.sn x0.sc, .slice x0.ka x0.kn x0.kc, .int .i64 a0.step, .slice x0.ha x0.hn x0.hc, .int .i64 a0.status, .int .i64 a0.out] 31)).heap.size := by simp
    generalize (w5'.alloc (.cells #[.int .i64 a0.P, .int .i64 a0.party, .int .i64 a0.input, .int .i64 a0.mask, .int .i64 a0.delta, .slice x0.sa x0.sn x0.sc, .slice x0.ka x0.kn x0.kc, .int .i64 a0.step, .slice x0.ha x0.hn x0.hc, .int .i64 a0.status, .int .i64 a0.out] 31)) = w6' at *
    clear V_w5'
    refine (CI.out _ _ ox0.rd (LX.out.below V_w6')).mono ?_
    rintro e w7' ⟨rfl, u_w7'⟩
    replace B_p0 := B_p0.below u_w7'
    replace B_x0 := B_x0.below u_w7'
    replace ox0 := ox0.below u_w7'
    have V_w7' := V_w6'.trans (u_w7'.mono (V_w6').size)
    have S_w7' := u_w7'.size
    clear u_w7' V_w6'
    have e_x0_0 : w7'.cell? ⟨w5'.heap.size, 0, none⟩ = some (.int .i64 a0.P) := B_x0.cell 0
    have e_x0_1 : w7'.cell? ⟨w5'.heap.size, 1, none⟩ = some (.int .i64 a0.party) := B_x0.cell 1
    have e_x0_2 : w7'.cell? ⟨w5'.heap.size, 2, none⟩ = some (.int .i64 a0.input) := B_x0.cell 2
    have e_x0_3 : w7'.cell? ⟨w5'.heap.size, 3, none⟩ = some (.int .i64 a0.mask) := B_x0.cell 3
    have e_x0_4 : w7'.cell? ⟨w5'.heap.size, 4, none⟩ = some (.int .i64 a0.delta) := B_x0.cell 4
    have e_x0_5 : w7'.cell? ⟨w5'.heap.size, 5, none⟩ = some (.slice x0.sa x0.sn x0.sc) := B_x0.cell 5
    have e_x0_6 : w7'.cell? ⟨w5'.heap.size, 6, none⟩ = some (.slice x0.ka x0.kn x0.kc) := B_x0.cell 6
    have e_x0_7 : w7'.cell? ⟨w5'.heap.size, 7, none⟩ = some (.int .i64 a0.step) := B_x0.cell 7
    have e_x0_8 : w7'.cell? ⟨w5'.heap.size, 8, none⟩ = some (.slice x0.ha x0.hn x0.hc) := B_x0.cell 8
    have e_x0_9 : w7'.cell? ⟨w5'.heap.size, 9, none⟩ = some (.int .i64 a0.status) := B_x0.cell 9
    have e_x0_10 : w7'.cell? ⟨w5'.heap.size, 10, none⟩ = some (.int .i64 a0.out) := B_x0.cell 10
    have e_p0_0 : w7'.cell? ⟨w.heap.size, 0, none⟩ = some (.int .i64 a0.P) := B_p0.cell 0
    have e_p0_1 : w7'.cell? ⟨w.heap.size, 1, none⟩ = some (.int .i64 a0.party) := B_p0.cell 1
    have e_p0_2 : w7'.cell? ⟨w.heap.size, 2, none⟩ = some (.int .i64 a0.input) := B_p0.cell 2
    have e_p0_3 : w7'.cell? ⟨w.heap.size, 3, none⟩ = some (.int .i64 a0.mask) := B_p0.cell 3
    have e_p0_4 : w7'.cell? ⟨w.heap.size, 4, none⟩ = some (.int .i64 a0.delta) := B_p0.cell 4
    have e_p0_5 : w7'.cell? ⟨w.heap.size, 5, none⟩ = some (.slice p0.sa p0.sn p0.sc) := B_p0.cell 5
    have e_p0_6 : w7'.cell? ⟨w.heap.size, 6, none⟩ = some (.slice p0.ka p0.kn p0.kc) := B_p0.cell 6
    have e_p0_7 : w7'.cell? ⟨w.heap.size, 7, none⟩ = some (.int .i64 a0.step) := B_p0.cell 7
    have e_p0_8 : w7'.cell? ⟨w.heap.size, 8, none⟩ = some (.slice p0.ha p0.hn p0.hc) := B_p0.cell 8
    have e_p0_9 : w7'.cell? ⟨w.heap.size, 9, none⟩ = some (.int .i64 a0.status) := B_p0.cell 9
    have e_p0_10 : w7'.cell? ⟨w.heap.size, 10, none⟩ = some (.int .i64 a0.out) := B_p0.cell 10
    go_wp2
    go_region_held3 (fun W => W.cell? ⟨w5'.heap.size, 0, none⟩ = some (.int .i64 a0.P) ∧ W.cell? ⟨w5'.heap.size, 1, none⟩ = some (.int .i64 a0.party) ∧ W.cell? ⟨w5'.heap.size, 2, none⟩ = some (.int .i64 a0.input) ∧ W.cell? ⟨w5'.heap.size, 3, none⟩ = some (.int .i64 a0.mask) ∧ W.cell? ⟨w5'.heap.size, 4, none⟩ = some (.int .i64 a0.delta) ∧ W.cell? ⟨w5'.heap.size, 5, none⟩ = some (.slice x0.sa x0.sn x0.sc) ∧ W.cell? ⟨w5'.heap.size, 6, none⟩ = some (.slice x0.ka x0.kn x0.kc) ∧ W.cell? ⟨w5'.heap.size, 7, none⟩ = some (.int .i64 a0.step) ∧ W.cell? ⟨w5'.heap.size, 8, none⟩ = some (.slice x0.ha x0.hn x0.hc) ∧ W.cell? ⟨w5'.heap.size, 9, none⟩ = some (.int .i64 a0.status) ∧ W.cell? ⟨w5'.heap.size, 10, none⟩ = some (.int .i64 a0.out) ∧ W.cell? ⟨w.heap.size, 0, none⟩ = some (.int .i64 a0.P) ∧ W.cell? ⟨w.heap.size, 1, none⟩ = some (.int .i64 a0.party) ∧ W.cell? ⟨w.heap.size, 2, none⟩ = some (.int .i64 a0.input) ∧ W.cell? ⟨w.heap.size, 3, none⟩ = some (.int .i64 a0.mask) ∧ W.cell? ⟨w.heap.size, 4, none⟩ = some (.int .i64 a0.delta) ∧ W.cell? ⟨w.heap.size, 5, none⟩ = some (.slice p0.sa p0.sn p0.sc) ∧ W.cell? ⟨w.heap.size, 6, none⟩ = some (.slice p0.ka p0.kn p0.kc) ∧ W.cell? ⟨w.heap.size, 7, none⟩ = some (.int .i64 a0.step) ∧ W.cell? ⟨w.heap.size, 8, none⟩ = some (.slice p0.ha p0.hn p0.hc) ∧ W.cell? ⟨w.heap.size, 9, none⟩ = some (.int .i64 a0.status) ∧ W.cell? ⟨w.heap.size, 10, none⟩ = some (.int .i64 a0.out))
      (first | go_keep | exact ⟨keepC tv (keepC tu e_x0_0), keepC tv (keepC tu e_x0_1), keepC tv (keepC tu e_x0_2), keepC tv (keepC tu e_x0_3), keepC tv (keepC tu e_x0_4), keepC tv (keepC tu e_x0_5), keepC tv (keepC tu e_x0_6), keepC tv (keepC tu e_x0_7), keepC tv (keepC tu e_x0_8), keepC tv (keepC tu e_x0_9), keepC tv (keepC tu e_x0_10), keepC tv (keepC tu e_p0_0), keepC tv (keepC tu e_p0_1), keepC tv (keepC tu e_p0_2), keepC tv (keepC tu e_p0_3), keepC tv (keepC tu e_p0_4), keepC tv (keepC tu e_p0_5), keepC tv (keepC tu e_p0_6), keepC tv (keepC tu e_p0_7), keepC tv (keepC tu e_p0_8), keepC tv (keepC tu e_p0_9), keepC tv (keepC tu e_p0_10)⟩ | exact ⟨keepC tu e_x0_0, keepC tu e_x0_1, keepC tu e_x0_2, keepC tu e_x0_3, keepC tu e_x0_4, keepC tu e_x0_5, keepC tu e_x0_6, keepC tu e_x0_7, keepC tu e_x0_8, keepC tu e_x0_9, keepC tu e_x0_10, keepC tu e_p0_0, keepC tu e_p0_1, keepC tu e_p0_2, keepC tu e_p0_3, keepC tu e_p0_4, keepC tu e_p0_5, keepC tu e_p0_6, keepC tu e_p0_7, keepC tu e_p0_8, keepC tu e_p0_9, keepC tu e_p0_10⟩)
      (first | (go_at_call 15; refine (toPlayer_o a0 p0 _ (z0.below V_w7'.drew) ht0).mono ?_; rintro e wt ⟨t0, F_t0, rfl, ot0, tu⟩) | (go_at_call 17; refine (eqPlayer_o a0 _ _ _ (ox0.drew.below tu).rd ot0.rd).mono ?_; rintro e wq ⟨rfl, tv⟩))
    have u_w8' : Below w7'.heap.size w7' wq := (Below.refl _ _).drew.trans (tu.trans (tv.mono tu.size))
    clear tu tv e_x0_0 e_x0_1 e_x0_2 e_x0_3 e_x0_4 e_x0_5 e_x0_6 e_x0_7 e_x0_8 e_x0_9 e_x0_10 e_p0_0 e_p0_1 e_p0_2 e_p0_3 e_p0_4 e_p0_5 e_p0_6 e_p0_7 e_p0_8 e_p0_9 e_p0_10 ot0
    replace B_p0 := B_p0.below u_w8'
    replace B_x0 := B_x0.below u_w8'
    replace ox0 := ox0.below u_w8'
    have V_wq := V_w7'.trans (u_w8'.mono (V_w7').size)
    have S_wq := u_w8'.size
    clear u_w8' V_w7'
    generalize wq = w8' at *
    have V_w8' := V_wq
    clear V_wq
    have S_w8' := S_wq
    clear S_wq
    go_wp2
    go_ret
    exact ⟨rfl, V_w8'⟩
  · skip
    go_enter Tryd.func4, Tryd.ntmps4
    go_wp2_with fail
    have V_w9' : Below w.heap.size w (w.alloc (.cells #[.int .i64 a0.P, .int .i64 a0.party, .int .i64 a0.input, .int .i64 a0.mask, .int .i64 a0.delta, .slice p0.sa p0.sn p0.sc, .slice p0.ka p0.kn p0.kc, .int .i64 a0.step, .slice p0.ha p0.hn p0.hc, .int .i64 a0.status, .int .i64 a0.out] 26)) := (((Below.refl w.heap.size w)).alloc (by have := ((Below.refl w.heap.size w)).size; first | exact this | (simp; omega) | simp) _)
    have B_p0 : Blk (w.alloc (.cells #[.int .i64 a0.P, .int .i64 a0.party, .int .i64 a0.input, .int .i64 a0.mask, .int .i64 a0.delta, .slice p0.sa p0.sn p0.sc, .slice p0.ka p0.kn p0.kc, .int .i64 a0.step, .slice p0.ha p0.hn p0.hc, .int .i64 a0.status, .int .i64 a0.out] 26)) (w.heap.size) 26 #[.int .i64 a0.P, .int .i64 a0.party, .int .i64 a0.input, .int .i64 a0.mask, .int .i64 a0.delta, .slice p0.sa p0.sn p0.sc, .slice p0.ka p0.kn p0.kc, .int .i64 a0.step, .slice p0.ha p0.hn p0.hc, .int .i64 a0.status, .int .i64 a0.out] := Blk.new w 26 #[.int .i64 a0.P, .int .i64 a0.party, .int .i64 a0.input, .int .i64 a0.mask, .int .i64 a0.delta, .slice p0.sa p0.sn p0.sc, .slice p0.ka p0.kn p0.kc, .int .i64 a0.step, .slice p0.ha p0.hn p0.hc, .int .i64 a0.status, .int .i64 a0.out]
    have S_w9' : w.heap.size + 1 ≤ (w.alloc (.cells #[.int .i64 a0.P, .int .i64 a0.party, .int .i64 a0.input, .int .i64 a0.mask, .int .i64 a0.delta, .slice p0.sa p0.sn p0.sc, .slice p0.ka p0.kn p0.kc, .int .i64 a0.step, .slice p0.ha p0.hn p0.hc, .int .i64 a0.status, .int .i64 a0.out] 26)).heap.size := by simp
    generalize (w.alloc (.cells #[.int .i64 a0.P, .int .i64 a0.party, .int .i64 a0.input, .int .i64 a0.mask, .int .i64 a0.delta, .slice p0.sa p0.sn p0.sc, .slice p0.ka p0.kn p0.kc, .int .i64 a0.step, .slice p0.ha p0.hn p0.hc, .int .i64 a0.status, .int .i64 a0.out] 26)) = w9' at *
    refine (szPlayer_o_no a0 p0 (1048576) _ (z0.below V_w9') (by omega) (by omega) (by omega)).mono ?_
    rintro e w10' ⟨rfl, u_w10'⟩
    replace B_p0 := B_p0.below u_w10'
    have V_w10' := V_w9'.trans (u_w10'.mono (V_w9').size)
    have S_w10' := u_w10'.size
    clear u_w10' V_w9'
    go_wp2
    go_ret
    exact ⟨rfl, V_w10'⟩
end Go.Proofs.YtlmdckcohoddnaaDoor
