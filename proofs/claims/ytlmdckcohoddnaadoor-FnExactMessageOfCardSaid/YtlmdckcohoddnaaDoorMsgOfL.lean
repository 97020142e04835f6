/- The law on MessageOf, walked. -/
import Derived.Test.YtlmdckcohoddnaaDoorMsgOf
namespace Go.Proofs.YtlmdckcohoddnaaDoor
open Go.RowKit
set_option maxHeartbeats 16000000 in
set_option maxRecDepth 100000 in
theorem FnExactMessageOf_walk (a0 : Pl) (p0 : PlX) (w : World) (z0 : PlR w p0 a0.shares a0.keys a0.heard) (hT : Tbl w) :
    Calls Tryd.prog 6 #[.agg #[.int .i64 a0.P, .int .i64 a0.party, .int .i64 a0.input, .int .i64 a0.mask, .int .i64 a0.delta, .slice p0.sa p0.sn p0.sc, .slice p0.ka p0.kn p0.kc, .int .i64 a0.step, .slice p0.ha p0.hn p0.hc, .int .i64 a0.status, .int .i64 a0.out]] w fun e w' => e = .returned (.bool true) ∧ Below w.heap.size w w' := by
  have LX := Lib.hid hT
  clear hT
  have CS := fun (W : World) (x0 : PlX) => spec_MessageOf_any a0 x0 W
  have CI := fun (W : World) (x0 : PlX) => MessageOf_any a0 x0 W
  have hl0 := moL_len a0
  generalize moF a0 = d0_0 at CS CI hl0
  generalize moS a0 = d0_1 at CS CI hl0
  generalize moL a0 = d0_2 at CS CI hl0
  generalize moB a0 = d1_0 at CS CI hl0
  replace CS := Lib.hid CS
  replace CI := Lib.hid CI
  by_cases ht0 : (szP p0 a0.shares a0.keys a0.heard : Int) ≤ 1048576
  · skip
    go_enter Tryd.func6, Tryd.ntmps6
    go_wp2_with fail
    have V_w1' : Below w.heap.size w (w.alloc (.cells #[.int .i64 a0.P, .int .i64 a0.party, .int .i64 a0.input, .int .i64 a0.mask, .int .i64 a0.delta, .slice p0.sa p0.sn p0.sc, .slice p0.ka p0.kn p0.kc, .int .i64 a0.step, .slice p0.ha p0.hn p0.hc, .int .i64 a0.status, .int .i64 a0.out] 26)) := (((Below.refl w.heap.size w)).alloc (by have := ((Below.refl w.heap.size w)).size; first | exact this | (simp; omega) | simp) _)
    have B_p0 : Blk (w.alloc (.cells #[.int .i64 a0.P, .int .i64 a0.party, .int .i64 a0.input, .int .i64 a0.mask, .int .i64 a0.delta, .slice p0.sa p0.sn p0.sc, .slice p0.ka p0.kn p0.kc, .int .i64 a0.step, .slice p0.ha p0.hn p0.hc, .int .i64 a0.status, .int .i64 a0.out] 26)) (w.heap.size) 26 #[.int .i64 a0.P, .int .i64 a0.party, .int .i64 a0.input, .int .i64 a0.mask, .int .i64 a0.delta, .slice p0.sa p0.sn p0.sc, .slice p0.ka p0.kn p0.kc, .int .i64 a0.step, .slice p0.ha p0.hn p0.hc, .int .i64 a0.status, .int .i64 a0.out] := Blk.new w 26 #[.int .i64 a0.P, .int .i64 a0.party, .int .i64 a0.input, .int .i64 a0.mask, .int .i64 a0.delta, .slice p0.sa p0.sn p0.sc, .slice p0.ka p0.kn p0.kc, .int .i64 a0.step, .slice p0.ha p0.hn p0.hc, .int .i64 a0.status, .int .i64 a0.out]
    have S_w1' : w.heap.size + 1 ≤ (w.alloc (.cells #[.int .i64 a0.P, .int .i64 a0.party, .int .i64 a0.input, .int .i64 a0.mask, .int .i64 a0.delta, .slice p0.sa p0.sn p0.sc, .slice p0.ka p0.kn p0.kc, .int .i64 a0.step, .slice p0.ha p0.hn p0.hc, .int .i64 a0.status, .int .i64 a0.out] 26)).heap.size := by simp
    generalize (w.alloc (.cells #[.int .i64 a0.P, .int .i64 a0.party, .int .i64 a0.input, .int .i64 a0.mask, .int .i64 a0.delta, .slice p0.sa p0.sn p0.sc, .slice p0.ka p0.kn p0.kc, .int .i64 a0.step, .slice p0.ha p0.hn p0.hc, .int .i64 a0.status, .int .i64 a0.out] 26)) = w1' at *
    refine (szPlayer_o_yes a0 p0 (1048576) _ (z0.below V_w1') (by omega) (by omega)).mono ?_
    rintro e w2' ⟨rfl, u_w2'⟩
    replace B_p0 := B_p0.below u_w2'
    have V_w2' := V_w1'.trans (u_w2'.mono (V_w1').size)
    have S_w2' := u_w2'.size
    clear u_w2' V_w1'
    have hcn0 := z0.cnt (by omega)
    replace ht0 : (szP p0 a0.shares a0.keys a0.heard : Int) ≤ 1048576 := by omega
    have e_p0_0 : w2'.cell? ⟨w.heap.size, 0, none⟩ = some (.int .i64 a0.P) := B_p0.cell 0
    have e_p0_1 : w2'.cell? ⟨w.heap.size, 1, none⟩ = some (.int .i64 a0.party) := B_p0.cell 1
    have e_p0_2 : w2'.cell? ⟨w.heap.size, 2, none⟩ = some (.int .i64 a0.input) := B_p0.cell 2
    have e_p0_3 : w2'.cell? ⟨w.heap.size, 3, none⟩ = some (.int .i64 a0.mask) := B_p0.cell 3
    have e_p0_4 : w2'.cell? ⟨w.heap.size, 4, none⟩ = some (.int .i64 a0.delta) := B_p0.cell 4
    have e_p0_5 : w2'.cell? ⟨w.heap.size, 5, none⟩ = some (.slice p0.sa p0.sn p0.sc) := B_p0.cell 5
    have e_p0_6 : w2'.cell? ⟨w.heap.size, 6, none⟩ = some (.slice p0.ka p0.kn p0.kc) := B_p0.cell 6
    have e_p0_7 : w2'.cell? ⟨w.heap.size, 7, none⟩ = some (.int .i64 a0.step) := B_p0.cell 7
    have e_p0_8 : w2'.cell? ⟨w.heap.size, 8, none⟩ = some (.slice p0.ha p0.hn p0.hc) := B_p0.cell 8
    have e_p0_9 : w2'.cell? ⟨w.heap.size, 9, none⟩ = some (.int .i64 a0.status) := B_p0.cell 9
    have e_p0_10 : w2'.cell? ⟨w.heap.size, 10, none⟩ = some (.int .i64 a0.out) := B_p0.cell 10
    go_wp2_with fail
    clear e_p0_0 e_p0_1 e_p0_2 e_p0_3 e_p0_4 e_p0_5 e_p0_6 e_p0_7 e_p0_8 e_p0_9 e_p0_10
    refine (toPlayer_o a0 p0 _ (z0.below V_w2') ht0).mono ?_
    rintro e w3' ⟨y0, F_y0, rfl, oy0, u_w3'⟩
    replace B_p0 := B_p0.below u_w3'
    have V_w3' := V_w2'.trans (u_w3'.mono (V_w2').size)
    have S_w3' := u_w3'.size
    clear u_w3' V_w2'
    have Q_oy0 := Lib.hid oy0.feet
    go_wp2_with fail
    refine (CS.out _ _ oy0.rd (LX.out.below V_w3')).mono ?_
    rintro e w4' ⟨r0, rn0, rc0, rfl, or0, u_w4'⟩
    replace B_p0 := B_p0.below u_w4'
    replace oy0 := oy0.below u_w4'
    have V_w4' := V_w3'.trans (u_w4'.mono (V_w3').size)
    have S_w4' := u_w4'.size
    clear u_w4' V_w3'
    have Q_or0 := Lib.hid or0.feet
    clear oy0
    have e_p0_0 : w4'.cell? ⟨w.heap.size, 0, none⟩ = some (.int .i64 a0.P) := B_p0.cell 0
    have e_p0_0_0 : (w4'.alloc (.cells #[.int .i64 d0_0, .int .i64 d0_1, .slice r0 rn0 rc0] 44)).cell? ⟨w.heap.size, 0, none⟩ = some (.int .i64 a0.P) := keepA _ e_p0_0
    have e_p0_1 : w4'.cell? ⟨w.heap.size, 1, none⟩ = some (.int .i64 a0.party) := B_p0.cell 1
    have e_p0_1_0 : (w4'.alloc (.cells #[.int .i64 d0_0, .int .i64 d0_1, .slice r0 rn0 rc0] 44)).cell? ⟨w.heap.size, 1, none⟩ = some (.int .i64 a0.party) := keepA _ e_p0_1
    have e_p0_2 : w4'.cell? ⟨w.heap.size, 2, none⟩ = some (.int .i64 a0.input) := B_p0.cell 2
    have e_p0_2_0 : (w4'.alloc (.cells #[.int .i64 d0_0, .int .i64 d0_1, .slice r0 rn0 rc0] 44)).cell? ⟨w.heap.size, 2, none⟩ = some (.int .i64 a0.input) := keepA _ e_p0_2
    have e_p0_3 : w4'.cell? ⟨w.heap.size, 3, none⟩ = some (.int .i64 a0.mask) := B_p0.cell 3
    have e_p0_3_0 : (w4'.alloc (.cells #[.int .i64 d0_0, .int .i64 d0_1, .slice r0 rn0 rc0] 44)).cell? ⟨w.heap.size, 3, none⟩ = some (.int .i64 a0.mask) := keepA _ e_p0_3
    have e_p0_4 : w4'.cell? ⟨w.heap.size, 4, none⟩ = some (.int .i64 a0.delta) := B_p0.cell 4
    have e_p0_4_0 : (w4'.alloc (.cells #[.int .i64 d0_0, .int .i64 d0_1, .slice r0 rn0 rc0] 44)).cell? ⟨w.heap.size, 4, none⟩ = some (.int .i64 a0.delta) := keepA _ e_p0_4
    have e_p0_5 : w4'.cell? ⟨w.heap.size, 5, none⟩ = some (.slice p0.sa p0.sn p0.sc) := B_p0.cell 5
    have e_p0_5_0 : (w4'.alloc (.cells #[.int .i64 d0_0, .int .i64 d0_1, .slice r0 rn0 rc0] 44)).cell? ⟨w.heap.size, 5, none⟩ = some (.slice p0.sa p0.sn p0.sc) := keepA _ e_p0_5
    have e_p0_6 : w4'.cell? ⟨w.heap.size, 6, none⟩ = some (.slice p0.ka p0.kn p0.kc) := B_p0.cell 6
    have e_p0_6_0 : (w4'.alloc (.cells #[.int .i64 d0_0, .int .i64 d0_1, .slice r0 rn0 rc0] 44)).cell? ⟨w.heap.size, 6, none⟩ = some (.slice p0.ka p0.kn p0.kc) := keepA _ e_p0_6
    have e_p0_7 : w4'.cell? ⟨w.heap.size, 7, none⟩ = some (.int .i64 a0.step) := B_p0.cell 7
    have e_p0_7_0 : (w4'.alloc (.cells #[.int .i64 d0_0, .int .i64 d0_1, .slice r0 rn0 rc0] 44)).cell? ⟨w.heap.size, 7, none⟩ = some (.int .i64 a0.step) := keepA _ e_p0_7
    have e_p0_8 : w4'.cell? ⟨w.heap.size, 8, none⟩ = some (.slice p0.ha p0.hn p0.hc) := B_p0.cell 8
    have e_p0_8_0 : (w4'.alloc (.cells #[.int .i64 d0_0, .int .i64 d0_1, .slice r0 rn0 rc0] 44)).cell? ⟨w.heap.size, 8, none⟩ = some (.slice p0.ha p0.hn p0.hc) := keepA _ e_p0_8
    have e_p0_9 : w4'.cell? ⟨w.heap.size, 9, none⟩ = some (.int .i64 a0.status) := B_p0.cell 9
    have e_p0_9_0 : (w4'.alloc (.cells #[.int .i64 d0_0, .int .i64 d0_1, .slice r0 rn0 rc0] 44)).cell? ⟨w.heap.size, 9, none⟩ = some (.int .i64 a0.status) := keepA _ e_p0_9
    have e_p0_10 : w4'.cell? ⟨w.heap.size, 10, none⟩ = some (.int .i64 a0.out) := B_p0.cell 10
    have e_p0_10_0 : (w4'.alloc (.cells #[.int .i64 d0_0, .int .i64 d0_1, .slice r0 rn0 rc0] 44)).cell? ⟨w.heap.size, 10, none⟩ = some (.int .i64 a0.out) := keepA _ e_p0_10
    go_wp2_with fail
    clear e_p0_0 e_p0_0_0 e_p0_1 e_p0_1_0 e_p0_2 e_p0_2_0 e_p0_3 e_p0_3_0 e_p0_4 e_p0_4_0 e_p0_5 e_p0_5_0 e_p0_6 e_p0_6_0 e_p0_7 e_p0_7_0 e_p0_8 e_p0_8_0 e_p0_9 e_p0_9_0 e_p0_10 e_p0_10_0
    have V_w5' : Below w.heap.size w (w4'.alloc (.cells #[.int .i64 d0_0, .int .i64 d0_1, .slice r0 rn0 rc0] 44)) := ((V_w4').alloc (by have := (V_w4').size; first | exact this | (simp; omega) | simp) _)
    replace B_p0 := B_p0.alloc (.cells #[.int .i64 d0_0, .int .i64 d0_1, .slice r0 rn0 rc0] 44)
    replace or0 := or0.alloc (.cells #[.int .i64 d0_0, .int .i64 d0_1, .slice r0 rn0 rc0] 44)
    have B_r0 : Blk (w4'.alloc (.cells #[.int .i64 d0_0, .int .i64 d0_1, .slice r0 rn0 rc0] 44)) (w4'.heap.size) 44 #[.int .i64 d0_0, .int .i64 d0_1, .slice r0 rn0 rc0] := Blk.new w4' 44 #[.int .i64 d0_0, .int .i64 d0_1, .slice r0 rn0 rc0]
    have S_w5' : w4'.heap.size + 1 ≤ (w4'.alloc (.cells #[.int .i64 d0_0, .int .i64 d0_1, .slice r0 rn0 rc0] 44)).heap.size := by simp
    generalize (w4'.alloc (.cells #[.int .i64 d0_0, .int .i64 d0_1, .slice r0 rn0 rc0] 44)) = w5' at *
    clear V_w4'
    refine (toPlayer_o a0 p0 _ (z0.below V_w5') ht0).mono ?_
    rintro e w6' ⟨x0, F_x0, rfl, ox0, u_w6'⟩
    replace B_p0 := B_p0.below u_w6'
    replace B_r0 := B_r0.below u_w6'
    replace or0 := or0.below u_w6'
    have V_w6' := V_w5'.trans (u_w6'.mono (V_w5').size)
    have S_w6' := u_w6'.size
    clear u_w6' V_w5'
    have Q_ox0 := Lib.hid ox0.feet
    go_wp2_with fail
    have V_w7' : Below w.heap.size w (w6'.alloc (.cells #[.int .i64 a0.P, .int .i64 a0.party, .int .i64 a0.input, .int .i64 a0.mask, .int .i64 a0.delta, .slice x0.sa x0.sn x0.sc, .slice x0.ka x0.kn x0.kc, .int .i64 a0.step, .slice x0.ha x0.hn x0.hc, .int .i64 a0.status, .int .i64 a0.out] 31)) := ((V_w6').alloc (by have := (V_w6').size; first | exact this | (simp; omega) | simp) _)
    replace B_p0 := B_p0.alloc (.cells #[.int .i64 a0.P, .int .i64 a0.party, .int .i64 a0.input, .int .i64 a0.mask, .int .i64 a0.delta, .slice x0.sa x0.sn x0.sc, .slice x0.ka x0.kn x0.kc, .int .i64 a0.step, .slice x0.ha x0.hn x0.hc, .int .i64 a0.status, .int .i64 a0.out] 31)
    replace B_r0 := B_r0.alloc (.cells #[.int .i64 a0.P, .int .i64 a0.party, .int .i64 a0.input, .int .i64 a0.mask, .int .i64 a0.delta, .slice x0.sa x0.sn x0.sc, .slice x0.ka x0.kn x0.kc, .int .i64 a0.step, .slice x0.ha x0.hn x0.hc, .int .i64 a0.status, .int .i64 a0.out] 31)
    replace or0 := or0.alloc (.cells #[.int .i64 a0.P, .int .i64 a0.party, .int .i64 a0.input, .int .i64 a0.mask, .int .i64 a0.delta, .slice x0.sa x0.sn x0.sc, .slice x0.ka x0.kn x0.kc, .int .i64 a0.step, .slice x0.ha x0.hn x0.hc, .int .i64 a0.status, .int .i64 a0.out] 31)
    replace ox0 := ox0.alloc (.cells #[.int .i64 a0.P, .int .i64 a0.party, .int .i64 a0.input, .int .i64 a0.mask, .int .i64 a0.delta, .slice x0.sa x0.sn x0.sc, .slice x0.ka x0.kn x0.kc, .int .i64 a0.step, .slice x0.ha x0.hn x0.hc, .int .i64 a0.status, .int .i64 a0.out] 31)
    have B_x0 : Blk (w6'.alloc (.cells #[.int .i64 a0.P, .int .i64 a0.party, .int .i64 a0.input, .int .i64 a0.mask, .int .i64 a0.delta, .slice x0.sa x0.sn x0.sc, .slice x0.ka x0.kn x0.kc, .int .i64 a0.step, .slice x0.ha x0.hn x0.hc, .int .i64 a0.status, .int .i64 a0.out] 31)) (w6'.heap.size) 31 #[.int .i64 a0.P, .int .i64 a0.party, .int .i64 a0.input, .int .i64 a0.mask, .int .i64 a0.delta, .slice x0.sa x0.sn x0.sc, .slice x0.ka x0.kn x0.kc, .int .i64 a0.step, .slice x0.ha x0.hn x0.hc, .int .i64 a0.status, .int .i64 a0.out] := Blk.new w6' 31 #[.int .i64 a0.P, .int .i64 a0.party, .int .i64 a0.input, .int .i64 a0.mask, .int .i64 a0.delta, .slice x0.sa x0.sn x0.sc, .slice x0.ka x0.kn x0.kc, .int .i64 a0.step, .slice x0.ha x0.hn x0.hc, .int .i64 a0.status, .int .i64 a0.out]
    have S_w7' : w6'.heap.size + 1 ≤ (w6'.alloc (.cells #[.int .i64 a0.P, .int .i64 a0.party, .int .i64 a0.input, .int .i64 a0.mask, .int .i64 a0.delta, .slice x0.sa x0.sn x0.sc, .slice x0.ka x0.kn x0.kc, .int .i64 a0.step, .slice x0.ha x0.hn x0.hc, .int .i64 a0.status, .int .i64 a0.out] 31)).heap.size := by simp
    generalize (w6'.alloc (.cells #[.int .i64 a0.P, .int .i64 a0.party, .int .i64 a0.input, .int .i64 a0.mask, .int .i64 a0.delta, .slice x0.sa x0.sn x0.sc, .slice x0.ka x0.kn x0.kc, .int .i64 a0.step, .slice x0.ha x0.hn x0.hc, .int .i64 a0.status, .int .i64 a0.out] 31)) = w7' at *
    clear V_w6'
    refine (CI.out _ _ ox0.rd (LX.out.below V_w7')).mono ?_
    rintro e w8' ⟨g0, gn0, gc0, rfl, og0, u_w8'⟩
    replace B_p0 := B_p0.below u_w8'
    replace B_r0 := B_r0.below u_w8'
    replace B_x0 := B_x0.below u_w8'
    replace or0 := or0.below u_w8'
    replace ox0 := ox0.below u_w8'
    have V_w8' := V_w7'.trans (u_w8'.mono (V_w7').size)
    have S_w8' := u_w8'.size
    clear u_w8' V_w7'
    have Q_og0 := Lib.hid og0.feet
    have e_r0_0 : w8'.cell? ⟨w4'.heap.size, 0, none⟩ = some (.int .i64 d0_0) := B_r0.cell 0
    have e_r0_0_0 : (w8'.alloc (.cells #[.int .i64 d0_0, .int .i64 d0_1, .slice g0 gn0 gc0] 44)).cell? ⟨w4'.heap.size, 0, none⟩ = some (.int .i64 d0_0) := keepA _ e_r0_0
    have e_r0_1 : w8'.cell? ⟨w4'.heap.size, 1, none⟩ = some (.int .i64 d0_1) := B_r0.cell 1
    have e_r0_1_0 : (w8'.alloc (.cells #[.int .i64 d0_0, .int .i64 d0_1, .slice g0 gn0 gc0] 44)).cell? ⟨w4'.heap.size, 1, none⟩ = some (.int .i64 d0_1) := keepA _ e_r0_1
    have e_r0_2 : w8'.cell? ⟨w4'.heap.size, 2, none⟩ = some (.slice r0 rn0 rc0) := B_r0.cell 2
    have e_r0_2_0 : (w8'.alloc (.cells #[.int .i64 d0_0, .int .i64 d0_1, .slice g0 gn0 gc0] 44)).cell? ⟨w4'.heap.size, 2, none⟩ = some (.slice r0 rn0 rc0) := keepA _ e_r0_2
    go_wp2_with fail
    clear e_r0_0 e_r0_0_0 e_r0_1 e_r0_1_0 e_r0_2 e_r0_2_0
    have V_w9' : Below w.heap.size w (w8'.alloc (.cells #[.int .i64 d0_0, .int .i64 d0_1, .slice g0 gn0 gc0] 44)) := ((V_w8').alloc (by have := (V_w8').size; first | exact this | (simp; omega) | simp) _)
    replace B_p0 := B_p0.alloc (.cells #[.int .i64 d0_0, .int .i64 d0_1, .slice g0 gn0 gc0] 44)
    replace B_r0 := B_r0.alloc (.cells #[.int .i64 d0_0, .int .i64 d0_1, .slice g0 gn0 gc0] 44)
    replace B_x0 := B_x0.alloc (.cells #[.int .i64 d0_0, .int .i64 d0_1, .slice g0 gn0 gc0] 44)
    replace or0 := or0.alloc (.cells #[.int .i64 d0_0, .int .i64 d0_1, .slice g0 gn0 gc0] 44)
    replace ox0 := ox0.alloc (.cells #[.int .i64 d0_0, .int .i64 d0_1, .slice g0 gn0 gc0] 44)
    replace og0 := og0.alloc (.cells #[.int .i64 d0_0, .int .i64 d0_1, .slice g0 gn0 gc0] 44)
    have B_g0 : Blk (w8'.alloc (.cells #[.int .i64 d0_0, .int .i64 d0_1, .slice g0 gn0 gc0] 44)) (w8'.heap.size) 44 #[.int .i64 d0_0, .int .i64 d0_1, .slice g0 gn0 gc0] := Blk.new w8' 44 #[.int .i64 d0_0, .int .i64 d0_1, .slice g0 gn0 gc0]
    have S_w9' : w8'.heap.size + 1 ≤ (w8'.alloc (.cells #[.int .i64 d0_0, .int .i64 d0_1, .slice g0 gn0 gc0] 44)).heap.size := by simp
    generalize (w8'.alloc (.cells #[.int .i64 d0_0, .int .i64 d0_1, .slice g0 gn0 gc0] 44)) = w9' at *
    clear V_w8'
    refine (eqMessage_same _ _ _ _ _ _ _ _ _ _ og0.ints or0.ints).mono ?_
    rintro e w10' ⟨rfl, u_w10'⟩
    replace B_p0 := B_p0.below u_w10'
    replace B_r0 := B_r0.below u_w10'
    replace B_x0 := B_x0.below u_w10'
    replace B_g0 := B_g0.below u_w10'
    replace or0 := or0.below u_w10'
    replace ox0 := ox0.below u_w10'
    replace og0 := og0.below u_w10'
    have V_w10' := V_w9'.trans (u_w10'.mono (V_w9').size)
    have S_w10' := u_w10'.size
    clear u_w10' V_w9'
    have e_x0_0 : w10'.cell? ⟨w6'.heap.size, 0, none⟩ = some (.int .i64 a0.P) := B_x0.cell 0
    have e_x0_1 : w10'.cell? ⟨w6'.heap.size, 1, none⟩ = some (.int .i64 a0.party) := B_x0.cell 1
    have e_x0_2 : w10'.cell? ⟨w6'.heap.size, 2, none⟩ = some (.int .i64 a0.input) := B_x0.cell 2
    have e_x0_3 : w10'.cell? ⟨w6'.heap.size, 3, none⟩ = some (.int .i64 a0.mask) := B_x0.cell 3
    have e_x0_4 : w10'.cell? ⟨w6'.heap.size, 4, none⟩ = some (.int .i64 a0.delta) := B_x0.cell 4
    have e_x0_5 : w10'.cell? ⟨w6'.heap.size, 5, none⟩ = some (.slice x0.sa x0.sn x0.sc) := B_x0.cell 5
    have e_x0_6 : w10'.cell? ⟨w6'.heap.size, 6, none⟩ = some (.slice x0.ka x0.kn x0.kc) := B_x0.cell 6
    have e_x0_7 : w10'.cell? ⟨w6'.heap.size, 7, none⟩ = some (.int .i64 a0.step) := B_x0.cell 7
    have e_x0_8 : w10'.cell? ⟨w6'.heap.size, 8, none⟩ = some (.slice x0.ha x0.hn x0.hc) := B_x0.cell 8
    have e_x0_9 : w10'.cell? ⟨w6'.heap.size, 9, none⟩ = some (.int .i64 a0.status) := B_x0.cell 9
    have e_x0_10 : w10'.cell? ⟨w6'.heap.size, 10, none⟩ = some (.int .i64 a0.out) := B_x0.cell 10
    have e_p0_0 : w10'.cell? ⟨w.heap.size, 0, none⟩ = some (.int .i64 a0.P) := B_p0.cell 0
    have e_p0_1 : w10'.cell? ⟨w.heap.size, 1, none⟩ = some (.int .i64 a0.party) := B_p0.cell 1
    have e_p0_2 : w10'.cell? ⟨w.heap.size, 2, none⟩ = some (.int .i64 a0.input) := B_p0.cell 2
    have e_p0_3 : w10'.cell? ⟨w.heap.size, 3, none⟩ = some (.int .i64 a0.mask) := B_p0.cell 3
    have e_p0_4 : w10'.cell? ⟨w.heap.size, 4, none⟩ = some (.int .i64 a0.delta) := B_p0.cell 4
    have e_p0_5 : w10'.cell? ⟨w.heap.size, 5, none⟩ = some (.slice p0.sa p0.sn p0.sc) := B_p0.cell 5
    have e_p0_6 : w10'.cell? ⟨w.heap.size, 6, none⟩ = some (.slice p0.ka p0.kn p0.kc) := B_p0.cell 6
    have e_p0_7 : w10'.cell? ⟨w.heap.size, 7, none⟩ = some (.int .i64 a0.step) := B_p0.cell 7
    have e_p0_8 : w10'.cell? ⟨w.heap.size, 8, none⟩ = some (.slice p0.ha p0.hn p0.hc) := B_p0.cell 8
    have e_p0_9 : w10'.cell? ⟨w.heap.size, 9, none⟩ = some (.int .i64 a0.status) := B_p0.cell 9
    have e_p0_10 : w10'.cell? ⟨w.heap.size, 10, none⟩ = some (.int .i64 a0.out) := B_p0.cell 10
    go_wp2
    go_region_held3 (fun W => W.cell? ⟨w6'.heap.size, 0, none⟩ = some (.int .i64 a0.P) ∧ W.cell? ⟨w6'.heap.size, 1, none⟩ = some (.int .i64 a0.party) ∧ W.cell? ⟨w6'.heap.size, 2, none⟩ = some (.int .i64 a0.input) ∧ W.cell? ⟨w6'.heap.size, 3, none⟩ = some (.int .i64 a0.mask) ∧ W.cell? ⟨w6'.heap.size, 4, none⟩ = some (.int .i64 a0.delta) ∧ W.cell? ⟨w6'.heap.size, 5, none⟩ = some (.slice x0.sa x0.sn x0.sc) ∧ W.cell? ⟨w6'.heap.size, 6, none⟩ = some (.slice x0.ka x0.kn x0.kc) ∧ W.cell? ⟨w6'.heap.size, 7, none⟩ = some (.int .i64 a0.step) ∧ W.cell? ⟨w6'.heap.size, 8, none⟩ = some (.slice x0.ha x0.hn x0.hc) ∧ W.cell? ⟨w6'.heap.size, 9, none⟩ = some (.int .i64 a0.status) ∧ W.cell? ⟨w6'.heap.size, 10, none⟩ = some (.int .i64 a0.out) ∧ W.cell? ⟨w.heap.size, 0, none⟩ = some (.int .i64 a0.P) ∧ W.cell? ⟨w.heap.size, 1, none⟩ = some (.int .i64 a0.party) ∧ W.cell? ⟨w.heap.size, 2, none⟩ = some (.int .i64 a0.input) ∧ W.cell? ⟨w.heap.size, 3, none⟩ = some (.int .i64 a0.mask) ∧ W.cell? ⟨w.heap.size, 4, none⟩ = some (.int .i64 a0.delta) ∧ W.cell? ⟨w.heap.size, 5, none⟩ = some (.slice p0.sa p0.sn p0.sc) ∧ W.cell? ⟨w.heap.size, 6, none⟩ = some (.slice p0.ka p0.kn p0.kc) ∧ W.cell? ⟨w.heap.size, 7, none⟩ = some (.int .i64 a0.step) ∧ W.cell? ⟨w.heap.size, 8, none⟩ = some (.slice p0.ha p0.hn p0.hc) ∧ W.cell? ⟨w.heap.size, 9, none⟩ = some (.int .i64 a0.status) ∧ W.cell? ⟨w.heap.size, 10, none⟩ = some (.int .i64 a0.out))
      (first | go_keep | exact ⟨keepC tv (keepC tu e_x0_0), keepC tv (keepC tu e_x0_1), keepC tv (keepC tu e_x0_2), keepC tv (keepC tu e_x0_3), keepC tv (keepC tu e_x0_4), keepC tv (keepC tu e_x0_5), keepC tv (keepC tu e_x0_6), keepC tv (keepC tu e_x0_7), keepC tv (keepC tu e_x0_8), keepC tv (keepC tu e_x0_9), keepC tv (keepC tu e_x0_10), keepC tv (keepC tu e_p0_0), keepC tv (keepC tu e_p0_1), keepC tv (keepC tu e_p0_2), keepC tv (keepC tu e_p0_3), keepC tv (keepC tu e_p0_4), keepC tv (keepC tu e_p0_5), keepC tv (keepC tu e_p0_6), keepC tv (keepC tu e_p0_7), keepC tv (keepC tu e_p0_8), keepC tv (keepC tu e_p0_9), keepC tv (keepC tu e_p0_10)⟩ | exact ⟨keepC tu e_x0_0, keepC tu e_x0_1, keepC tu e_x0_2, keepC tu e_x0_3, keepC tu e_x0_4, keepC tu e_x0_5, keepC tu e_x0_6, keepC tu e_x0_7, keepC tu e_x0_8, keepC tu e_x0_9, keepC tu e_x0_10, keepC tu e_p0_0, keepC tu e_p0_1, keepC tu e_p0_2, keepC tu e_p0_3, keepC tu e_p0_4, keepC tu e_p0_5, keepC tu e_p0_6, keepC tu e_p0_7, keepC tu e_p0_8, keepC tu e_p0_9, keepC tu e_p0_10⟩)
      (first | (go_at_call 15; refine (toPlayer_o a0 p0 _ (z0.below V_w10'.drew) ht0).mono ?_; rintro e wt ⟨t0, F_t0, rfl, ot0, tu⟩) | (go_at_call 17; refine (eqPlayer_o a0 _ _ _ (ox0.drew.below tu).rd ot0.rd).mono ?_; rintro e wq ⟨rfl, tv⟩))
    have u_w11' : Below w10'.heap.size w10' wq := (Below.refl _ _).drew.trans (tu.trans (tv.mono tu.size))
    clear tu tv e_x0_0 e_x0_1 e_x0_2 e_x0_3 e_x0_4 e_x0_5 e_x0_6 e_x0_7 e_x0_8 e_x0_9 e_x0_10 e_p0_0 e_p0_1 e_p0_2 e_p0_3 e_p0_4 e_p0_5 e_p0_6 e_p0_7 e_p0_8 e_p0_9 e_p0_10 ot0
    replace B_p0 := B_p0.below u_w11'
    replace B_r0 := B_r0.below u_w11'
    replace B_x0 := B_x0.below u_w11'
    replace B_g0 := B_g0.below u_w11'
    replace or0 := or0.below u_w11'
    replace ox0 := ox0.below u_w11'
    replace og0 := og0.below u_w11'
    have V_wq := V_w10'.trans (u_w11'.mono (V_w10').size)
    have S_wq := u_w11'.size
    clear u_w11' V_w10'
    generalize wq = w11' at *
    have V_w11' := V_wq
    clear V_wq
    have S_w11' := S_wq
    clear S_wq
    have e_x0_0 : w11'.cell? ⟨w6'.heap.size, 0, none⟩ = some (.int .i64 a0.P) := B_x0.cell 0
    have e_x0_1 : w11'.cell? ⟨w6'.heap.size, 1, none⟩ = some (.int .i64 a0.party) := B_x0.cell 1
    have e_x0_2 : w11'.cell? ⟨w6'.heap.size, 2, none⟩ = some (.int .i64 a0.input) := B_x0.cell 2
    have e_x0_3 : w11'.cell? ⟨w6'.heap.size, 3, none⟩ = some (.int .i64 a0.mask) := B_x0.cell 3
    have e_x0_4 : w11'.cell? ⟨w6'.heap.size, 4, none⟩ = some (.int .i64 a0.delta) := B_x0.cell 4
    have e_x0_5 : w11'.cell? ⟨w6'.heap.size, 5, none⟩ = some (.slice x0.sa x0.sn x0.sc) := B_x0.cell 5
    have e_x0_6 : w11'.cell? ⟨w6'.heap.size, 6, none⟩ = some (.slice x0.ka x0.kn x0.kc) := B_x0.cell 6
    have e_x0_7 : w11'.cell? ⟨w6'.heap.size, 7, none⟩ = some (.int .i64 a0.step) := B_x0.cell 7
    have e_x0_8 : w11'.cell? ⟨w6'.heap.size, 8, none⟩ = some (.slice x0.ha x0.hn x0.hc) := B_x0.cell 8
    have e_x0_9 : w11'.cell? ⟨w6'.heap.size, 9, none⟩ = some (.int .i64 a0.status) := B_x0.cell 9
    have e_x0_10 : w11'.cell? ⟨w6'.heap.size, 10, none⟩ = some (.int .i64 a0.out) := B_x0.cell 10
    go_wp2_with fail
    clear e_x0_0 e_x0_1 e_x0_2 e_x0_3 e_x0_4 e_x0_5 e_x0_6 e_x0_7 e_x0_8 e_x0_9 e_x0_10
    refine (markPlayer_o _ _ _ _ _ _ _ _ _ ox0 (by omega) (by omega)).mono ?_
    rintro e w12' ⟨ms_ox0, mk_ox0, mh_ox0, rfl, ox0, U_ox0, T_ox0, G⟩
    replace U_ox0 := Lib.hid U_ox0
    have hm_ox0 : cntP ms_ox0 mk_ox0 mh_ox0 ≤ 10000000 := by omega
    clear T_ox0
    replace or0 := or0.only G (fun k hk hk' => by have := Q_or0.out k hk; have := Q_ox0.out k hk'; omega)
    replace og0 := og0.only G (fun k hk hk' => by have := Q_og0.out k hk; have := Q_ox0.out k hk'; omega)
    replace B_p0 := B_p0.only G (fun hm => by have := Q_ox0.out _ hm; omega)
    replace B_r0 := B_r0.only G (fun hm => by have := Q_ox0.out _ hm; omega)
    replace B_x0 := B_x0.only G (fun hm => by have := Q_ox0.out _ hm; omega)
    replace B_g0 := B_g0.only G (fun hm => by have := Q_ox0.out _ hm; omega)
    have V_w12' := V_w11'.trans (G.below V_w11'.size (fun k hm => by have := V_w11'.size; have := Q_ox0.out k hm; omega))
    have S_w12' := G.size
    clear G V_w11'
    have e_g0_0 : w12'.cell? ⟨w8'.heap.size, 0, none⟩ = some (.int .i64 d0_0) := B_g0.cell 0
    have e_g0_1 : w12'.cell? ⟨w8'.heap.size, 1, none⟩ = some (.int .i64 d0_1) := B_g0.cell 1
    have e_g0_2 : w12'.cell? ⟨w8'.heap.size, 2, none⟩ = some (.slice g0 gn0 gc0) := B_g0.cell 2
    have e_r0_0 : w12'.cell? ⟨w4'.heap.size, 0, none⟩ = some (.int .i64 d0_0) := B_r0.cell 0
    have e_r0_1 : w12'.cell? ⟨w4'.heap.size, 1, none⟩ = some (.int .i64 d0_1) := B_r0.cell 1
    have e_r0_2 : w12'.cell? ⟨w4'.heap.size, 2, none⟩ = some (.slice r0 rn0 rc0) := B_r0.cell 2
    go_wp2_with fail
    clear e_g0_0 e_g0_1 e_g0_2 e_r0_0 e_r0_1 e_r0_2
    refine (eqMessage_same _ _ _ _ _ _ _ _ _ _ og0.ints or0.ints).mono ?_
    rintro e w13' ⟨rfl, u_w13'⟩
    replace B_p0 := B_p0.below u_w13'
    replace B_r0 := B_r0.below u_w13'
    replace B_x0 := B_x0.below u_w13'
    replace B_g0 := B_g0.below u_w13'
    replace or0 := or0.below u_w13'
    replace ox0 := ox0.below u_w13'
    replace og0 := og0.below u_w13'
    have V_w13' := V_w12'.trans (u_w13'.mono (V_w12').size)
    have S_w13' := u_w13'.size
    clear u_w13' V_w12'
    clear ox0
    clear B_x0
    have hn_og0 : gn0 ≤ 1000000 := by have := og0.len; omega
    have e_g0_0 : w13'.cell? ⟨w8'.heap.size, 0, none⟩ = some (.int .i64 d0_0) := B_g0.cell 0
    have e_g0_1 : w13'.cell? ⟨w8'.heap.size, 1, none⟩ = some (.int .i64 d0_1) := B_g0.cell 1
    have e_g0_2 : w13'.cell? ⟨w8'.heap.size, 2, none⟩ = some (.slice g0 gn0 gc0) := B_g0.cell 2
    go_wp2_with fail
    clear e_g0_0 e_g0_1 e_g0_2
    refine (markMessage_any _ _ _ _ _ _ _ _ _ og0 (by omega) (by omega)).mono ?_
    rintro e w14' ⟨rfl, ⟨L_og0, og0, U_og0⟩, G⟩
    replace U_og0 := Lib.hid U_og0
    replace or0 := or0.only G (fun k hk hk' => by have := Q_or0.out k hk; have := Q_og0.out k hk'; omega)
    replace B_p0 := B_p0.only G (fun hm => by have := Q_og0.out _ hm; omega)
    replace B_r0 := B_r0.only G (fun hm => by have := Q_og0.out _ hm; omega)
    replace B_g0 := B_g0.only G (fun hm => by have := Q_og0.out _ hm; omega)
    have V_w14' := V_w13'.trans (G.below V_w13'.size (fun k hm => by have := V_w13'.size; have := Q_og0.out k hm; omega))
    have S_w14' := G.size
    clear G V_w13'
    have e_g0_0 : w14'.cell? ⟨w8'.heap.size, 0, none⟩ = some (.int .i64 d0_0) := B_g0.cell 0
    have e_g0_1 : w14'.cell? ⟨w8'.heap.size, 1, none⟩ = some (.int .i64 d0_1) := B_g0.cell 1
    have e_g0_2 : w14'.cell? ⟨w8'.heap.size, 2, none⟩ = some (.slice g0 gn0 gc0) := B_g0.cell 2
    go_wp2_with fail
    clear e_g0_0 e_g0_1 e_g0_2
    refine (heldMessage_any _ _ _ _ _ _ _ _ og0.ints U_og0.out (by omega) (by omega)).mono ?_
    rintro e w15' ⟨rfl, u_w15'⟩
    replace B_p0 := B_p0.below u_w15'
    replace B_r0 := B_r0.below u_w15'
    replace B_g0 := B_g0.below u_w15'
    replace or0 := or0.below u_w15'
    replace og0 := og0.below u_w15'
    have V_w15' := V_w14'.trans (u_w15'.mono (V_w14').size)
    have S_w15' := u_w15'.size
    clear u_w15' V_w14'
    have e_p0_0 : w15'.cell? ⟨w.heap.size, 0, none⟩ = some (.int .i64 a0.P) := B_p0.cell 0
    have e_p0_1 : w15'.cell? ⟨w.heap.size, 1, none⟩ = some (.int .i64 a0.party) := B_p0.cell 1
    have e_p0_2 : w15'.cell? ⟨w.heap.size, 2, none⟩ = some (.int .i64 a0.input) := B_p0.cell 2
    have e_p0_3 : w15'.cell? ⟨w.heap.size, 3, none⟩ = some (.int .i64 a0.mask) := B_p0.cell 3
    have e_p0_4 : w15'.cell? ⟨w.heap.size, 4, none⟩ = some (.int .i64 a0.delta) := B_p0.cell 4
    have e_p0_5 : w15'.cell? ⟨w.heap.size, 5, none⟩ = some (.slice p0.sa p0.sn p0.sc) := B_p0.cell 5
    have e_p0_6 : w15'.cell? ⟨w.heap.size, 6, none⟩ = some (.slice p0.ka p0.kn p0.kc) := B_p0.cell 6
    have e_p0_7 : w15'.cell? ⟨w.heap.size, 7, none⟩ = some (.int .i64 a0.step) := B_p0.cell 7
    have e_p0_8 : w15'.cell? ⟨w.heap.size, 8, none⟩ = some (.slice p0.ha p0.hn p0.hc) := B_p0.cell 8
    have e_p0_9 : w15'.cell? ⟨w.heap.size, 9, none⟩ = some (.int .i64 a0.status) := B_p0.cell 9
    have e_p0_10 : w15'.cell? ⟨w.heap.size, 10, none⟩ = some (.int .i64 a0.out) := B_p0.cell 10
    go_wp2_with fail
    clear e_p0_0 e_p0_1 e_p0_2 e_p0_3 e_p0_4 e_p0_5 e_p0_6 e_p0_7 e_p0_8 e_p0_9 e_p0_10
    refine (toPlayer_o a0 p0 _ (z0.below V_w15') ht0).mono ?_
    rintro e w16' ⟨x0, F_x0, rfl, ox0, u_w16'⟩
    replace B_p0 := B_p0.below u_w16'
    replace B_r0 := B_r0.below u_w16'
    replace B_g0 := B_g0.below u_w16'
    replace or0 := or0.below u_w16'
    replace og0 := og0.below u_w16'
    have V_w16' := V_w15'.trans (u_w16'.mono (V_w15').size)
    have S_w16' := u_w16'.size
    clear u_w16' V_w15'
    have Q_ox0 := Lib.hid ox0.feet
    go_wp2_with fail
    refine (CI.out _ _ ox0.rd (LX.out.below V_w16')).mono ?_
    rintro e w17' ⟨h0, hn0, hc0, rfl, oh0, u_w17'⟩
    replace B_p0 := B_p0.below u_w17'
    replace B_r0 := B_r0.below u_w17'
    replace B_g0 := B_g0.below u_w17'
    replace or0 := or0.below u_w17'
    replace og0 := og0.below u_w17'
    replace ox0 := ox0.below u_w17'
    have V_w17' := V_w16'.trans (u_w17'.mono (V_w16').size)
    have S_w17' := u_w17'.size
    clear u_w17' V_w16'
    have Q_oh0 := Lib.hid oh0.feet
    clear ox0
    have e_r0_0 : w17'.cell? ⟨w4'.heap.size, 0, none⟩ = some (.int .i64 d0_0) := B_r0.cell 0
    have e_r0_0_0 : (w17'.alloc (.cells #[.int .i64 d0_0, .int .i64 d0_1, .slice h0 hn0 hc0] 44)).cell? ⟨w4'.heap.size, 0, none⟩ = some (.int .i64 d0_0) := keepA _ e_r0_0
    have e_r0_1 : w17'.cell? ⟨w4'.heap.size, 1, none⟩ = some (.int .i64 d0_1) := B_r0.cell 1
    have e_r0_1_0 : (w17'.alloc (.cells #[.int .i64 d0_0, .int .i64 d0_1, .slice h0 hn0 hc0] 44)).cell? ⟨w4'.heap.size, 1, none⟩ = some (.int .i64 d0_1) := keepA _ e_r0_1
    have e_r0_2 : w17'.cell? ⟨w4'.heap.size, 2, none⟩ = some (.slice r0 rn0 rc0) := B_r0.cell 2
    have e_r0_2_0 : (w17'.alloc (.cells #[.int .i64 d0_0, .int .i64 d0_1, .slice h0 hn0 hc0] 44)).cell? ⟨w4'.heap.size, 2, none⟩ = some (.slice r0 rn0 rc0) := keepA _ e_r0_2
    go_wp2_with fail
    clear e_r0_0 e_r0_0_0 e_r0_1 e_r0_1_0 e_r0_2 e_r0_2_0
    have V_w18' : Below w.heap.size w (w17'.alloc (.cells #[.int .i64 d0_0, .int .i64 d0_1, .slice h0 hn0 hc0] 44)) := ((V_w17').alloc (by have := (V_w17').size; first | exact this | (simp; omega) | simp) _)
    replace B_p0 := B_p0.alloc (.cells #[.int .i64 d0_0, .int .i64 d0_1, .slice h0 hn0 hc0] 44)
    replace B_r0 := B_r0.alloc (.cells #[.int .i64 d0_0, .int .i64 d0_1, .slice h0 hn0 hc0] 44)
    replace B_g0 := B_g0.alloc (.cells #[.int .i64 d0_0, .int .i64 d0_1, .slice h0 hn0 hc0] 44)
    replace or0 := or0.alloc (.cells #[.int .i64 d0_0, .int .i64 d0_1, .slice h0 hn0 hc0] 44)
    replace og0 := og0.alloc (.cells #[.int .i64 d0_0, .int .i64 d0_1, .slice h0 hn0 hc0] 44)
    replace oh0 := oh0.alloc (.cells #[.int .i64 d0_0, .int .i64 d0_1, .slice h0 hn0 hc0] 44)
    have B_h0 : Blk (w17'.alloc (.cells #[.int .i64 d0_0, .int .i64 d0_1, .slice h0 hn0 hc0] 44)) (w17'.heap.size) 44 #[.int .i64 d0_0, .int .i64 d0_1, .slice h0 hn0 hc0] := Blk.new w17' 44 #[.int .i64 d0_0, .int .i64 d0_1, .slice h0 hn0 hc0]
    have S_w18' : w17'.heap.size + 1 ≤ (w17'.alloc (.cells #[.int .i64 d0_0, .int .i64 d0_1, .slice h0 hn0 hc0] 44)).heap.size := by simp
    generalize (w17'.alloc (.cells #[.int .i64 d0_0, .int .i64 d0_1, .slice h0 hn0 hc0] 44)) = w18' at *
    clear V_w17'
    refine (eqMessage_same _ _ _ _ _ _ _ _ _ _ oh0.ints or0.ints).mono ?_
    rintro e w19' ⟨rfl, u_w19'⟩
    replace B_p0 := B_p0.below u_w19'
    replace B_r0 := B_r0.below u_w19'
    replace B_g0 := B_g0.below u_w19'
    replace B_h0 := B_h0.below u_w19'
    replace or0 := or0.below u_w19'
    replace og0 := og0.below u_w19'
    replace oh0 := oh0.below u_w19'
    have V_w19' := V_w18'.trans (u_w19'.mono (V_w18').size)
    have S_w19' := u_w19'.size
    clear u_w19' V_w18'
    have e_g0_0 : w19'.cell? ⟨w8'.heap.size, 0, none⟩ = some (.int .i64 d0_0) := B_g0.cell 0
    have e_g0_1 : w19'.cell? ⟨w8'.heap.size, 1, none⟩ = some (.int .i64 d0_1) := B_g0.cell 1
    have e_g0_2 : w19'.cell? ⟨w8'.heap.size, 2, none⟩ = some (.slice g0 gn0 gc0) := B_g0.cell 2
    go_wp2_with fail
    clear e_g0_0 e_g0_1 e_g0_2
    refine (heldMessage_any _ _ _ _ _ _ _ _ og0.ints U_og0.out (by omega) (by omega)).mono ?_
    rintro e w20' ⟨rfl, u_w20'⟩
    replace B_p0 := B_p0.below u_w20'
    replace B_r0 := B_r0.below u_w20'
    replace B_g0 := B_g0.below u_w20'
    replace B_h0 := B_h0.below u_w20'
    replace or0 := or0.below u_w20'
    replace og0 := og0.below u_w20'
    replace oh0 := oh0.below u_w20'
    have V_w20' := V_w19'.trans (u_w20'.mono (V_w19').size)
    have S_w20' := u_w20'.size
    clear u_w20' V_w19'
    go_wp2
    go_ret
    exact ⟨rfl, V_w20'⟩
  · skip
    go_enter Tryd.func6, Tryd.ntmps6
    go_wp2_with fail
    have V_w21' : Below w.heap.size w (w.alloc (.cells #[.int .i64 a0.P, .int .i64 a0.party, .int .i64 a0.input, .int .i64 a0.mask, .int .i64 a0.delta, .slice p0.sa p0.sn p0.sc, .slice p0.ka p0.kn p0.kc, .int .i64 a0.step, .slice p0.ha p0.hn p0.hc, .int .i64 a0.status, .int .i64 a0.out] 26)) := (((Below.refl w.heap.size w)).alloc (by have := ((Below.refl w.heap.size w)).size; first | exact this | (simp; omega) | simp) _)
    have B_p0 : Blk (w.alloc (.cells #[.int .i64 a0.P, .int .i64 a0.party, .int .i64 a0.input, .int .i64 a0.mask, .int .i64 a0.delta, .slice p0.sa p0.sn p0.sc, .slice p0.ka p0.kn p0.kc, .int .i64 a0.step, .slice p0.ha p0.hn p0.hc, .int .i64 a0.status, .int .i64 a0.out] 26)) (w.heap.size) 26 #[.int .i64 a0.P, .int .i64 a0.party, .int .i64 a0.input, .int .i64 a0.mask, .int .i64 a0.delta, .slice p0.sa p0.sn p0.sc, .slice p0.ka p0.kn p0.kc, .int .i64 a0.step, .slice p0.ha p0.hn p0.hc, .int .i64 a0.status, .int .i64 a0.out] := Blk.new w 26 #[.int .i64 a0.P, .int .i64 a0.party, .int .i64 a0.input, .int .i64 a0.mask, .int .i64 a0.delta, .slice p0.sa p0.sn p0.sc, .slice p0.ka p0.kn p0.kc, .int .i64 a0.step, .slice p0.ha p0.hn p0.hc, .int .i64 a0.status, .int .i64 a0.out]
    have S_w21' : w.heap.size + 1 ≤ (w.alloc (.cells #[.int .i64 a0.P, .int .i64 a0.party, .int .i64 a0.input, .int .i64 a0.mask, .int .i64 a0.delta, .slice p0.sa p0.sn p0.sc, .slice p0.ka p0.kn p0.kc, .int .i64 a0.step, .slice p0.ha p0.hn p0.hc, .int .i64 a0.status, .int .i64 a0.out] 26)).heap.size := by simp
    generalize (w.alloc (.cells #[.int .i64 a0.P, .int .i64 a0.party, .int .i64 a0.input, .int .i64 a0.mask, .int .i64 a0.delta, .slice p0.sa p0.sn p0.sc, .slice p0.ka p0.kn p0.kc, .int .i64 a0.step, .slice p0.ha p0.hn p0.hc, .int .i64 a0.status, .int .i64 a0.out] 26)) = w21' at *
    refine (szPlayer_o_no a0 p0 (1048576) _ (z0.below V_w21') (by omega) (by omega) (by omega)).mono ?_
    rintro e w22' ⟨rfl, u_w22'⟩
    replace B_p0 := B_p0.below u_w22'
    have V_w22' := V_w21'.trans (u_w22'.mono (V_w21').size)
    have S_w22' := u_w22'.size
    clear u_w22' V_w21'
    go_wp2
    go_ret
    exact ⟨rfl, V_w22'⟩
end Go.Proofs.YtlmdckcohoddnaaDoor
