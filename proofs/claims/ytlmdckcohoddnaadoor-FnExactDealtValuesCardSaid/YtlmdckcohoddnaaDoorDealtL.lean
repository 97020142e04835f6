/- The law on DealtValues, walked. -/
import Derived.Test.YtlmdckcohoddnaaDoorDealt
namespace Go.Proofs.YtlmdckcohoddnaaDoor
open Go.RowKit
set_option maxHeartbeats 16000000 in
set_option maxRecDepth 100000 in
theorem FnExactDealtValues_walk (a0 : Pl) (p0 : PlX) (a1 : Pl) (p1 : PlX) (w : World) (z0 : PlR w p0 a0.shares a0.keys a0.heard) (z1 : PlR w p1 a1.shares a1.keys a1.heard) (hT : Tbl w) :
    Calls Tryd.prog 5 #[.agg #[.int .i64 a0.P, .int .i64 a0.party, .int .i64 a0.input, .int .i64 a0.mask, .int .i64 a0.delta, .slice p0.sa p0.sn p0.sc, .slice p0.ka p0.kn p0.kc, .int .i64 a0.step, .slice p0.ha p0.hn p0.hc, .int .i64 a0.status, .int .i64 a0.out], .agg #[.int .i64 a1.P, .int .i64 a1.party, .int .i64 a1.input, .int .i64 a1.mask, .int .i64 a1.delta, .slice p1.sa p1.sn p1.sc, .slice p1.ka p1.kn p1.kc, .int .i64 a1.step, .slice p1.ha p1.hn p1.hc, .int .i64 a1.status, .int .i64 a1.out]] w fun e w' => e = .returned (.bool true) ∧ Below w.heap.size w w' := by
  have LX := Lib.hid hT
  clear hT
  have CS := fun (W : World) (x0 : PlX) (x1 : PlX) => spec_DealtValues_any a0 x0 a1 x1 W
  have CI := fun (W : World) (x0 : PlX) (x1 : PlX) => DealtValues_any a0 x0 a1 x1 W
  have hl0 := dvR_len a0 a1
  generalize dvR a0 a1 = d0_0 at CS CI hl0
  generalize twoB a0 a1 = d1_0 at CS CI hl0
  replace CS := Lib.hid CS
  replace CI := Lib.hid CI
  by_cases ht0 : (szP p0 a0.shares a0.keys a0.heard : Int) ≤ 1048576
  · skip
    by_cases ht1 : (szP p1 a1.shares a1.keys a1.heard : Int) ≤ 1048576 - (szP p0 a0.shares a0.keys a0.heard : Int)
    · skip
      go_enter Tryd.func5, Tryd.ntmps5
      go_wp2_with fail
      have V_w1' : Below w.heap.size w ((w.alloc (.cells #[.int .i64 a0.P, .int .i64 a0.party, .int .i64 a0.input, .int .i64 a0.mask, .int .i64 a0.delta, .slice p0.sa p0.sn p0.sc, .slice p0.ka p0.kn p0.kc, .int .i64 a0.step, .slice p0.ha p0.hn p0.hc, .int .i64 a0.status, .int .i64 a0.out] 26)).alloc (.cells #[.int .i64 a1.P, .int .i64 a1.party, .int .i64 a1.input, .int .i64 a1.mask, .int .i64 a1.delta, .slice p1.sa p1.sn p1.sc, .slice p1.ka p1.kn p1.kc, .int .i64 a1.step, .slice p1.ha p1.hn p1.hc, .int .i64 a1.status, .int .i64 a1.out] 26)) := (((((Below.refl w.heap.size w)).alloc (by have := ((Below.refl w.heap.size w)).size; first | exact this | (simp; omega) | simp) _)).alloc (by have := ((Below.refl w.heap.size w)).size; first | exact this | (simp; omega) | simp) _)
      have B_p0 : Blk ((w.alloc (.cells #[.int .i64 a0.P, .int .i64 a0.party, .int .i64 a0.input, .int .i64 a0.mask, .int .i64 a0.delta, .slice p0.sa p0.sn p0.sc, .slice p0.ka p0.kn p0.kc, .int .i64 a0.step, .slice p0.ha p0.hn p0.hc, .int .i64 a0.status, .int .i64 a0.out] 26)).alloc (.cells #[.int .i64 a1.P, .int .i64 a1.party, .int .i64 a1.input, .int .i64 a1.mask, .int .i64 a1.delta, .slice p1.sa p1.sn p1.sc, .slice p1.ka p1.kn p1.kc, .int .i64 a1.step, .slice p1.ha p1.hn p1.hc, .int .i64 a1.status, .int .i64 a1.out] 26)) (w.heap.size) 26 #[.int .i64 a0.P, .int .i64 a0.party, .int .i64 a0.input, .int .i64 a0.mask, .int .i64 a0.delta, .slice p0.sa p0.sn p0.sc, .slice p0.ka p0.kn p0.kc, .int .i64 a0.step, .slice p0.ha p0.hn p0.hc, .int .i64 a0.status, .int .i64 a0.out] := by simpa using ((Blk.new w 26 #[.int .i64 a0.P, .int .i64 a0.party, .int .i64 a0.input, .int .i64 a0.mask, .int .i64 a0.delta, .slice p0.sa p0.sn p0.sc, .slice p0.ka p0.kn p0.kc, .int .i64 a0.step, .slice p0.ha p0.hn p0.hc, .int .i64 a0.status, .int .i64 a0.out]).alloc _ : Blk ((w.alloc (.cells #[.int .i64 a0.P, .int .i64 a0.party, .int .i64 a0.input, .int .i64 a0.mask, .int .i64 a0.delta, .slice p0.sa p0.sn p0.sc, .slice p0.ka p0.kn p0.kc, .int .i64 a0.step, .slice p0.ha p0.hn p0.hc, .int .i64 a0.status, .int .i64 a0.out] 26)).alloc (.cells #[.int .i64 a1.P, .int .i64 a1.party, .int .i64 a1.input, .int .i64 a1.mask, .int .i64 a1.delta, .slice p1.sa p1.sn p1.sc, .slice p1.ka p1.kn p1.kc, .int .i64 a1.step, .slice p1.ha p1.hn p1.hc, .int .i64 a1.status, .int .i64 a1.out] 26)) _ _ _)
      have B_p1 : Blk ((w.alloc (.cells #[.int .i64 a0.P, .int .i64 a0.party, .int .i64 a0.input, .int .i64 a0.mask, .int .i64 a0.delta, .slice p0.sa p0.sn p0.sc, .slice p0.ka p0.kn p0.kc, .int .i64 a0.step, .slice p0.ha p0.hn p0.hc, .int .i64 a0.status, .int .i64 a0.out] 26)).alloc (.cells #[.int .i64 a1.P, .int .i64 a1.party, .int .i64 a1.input, .int .i64 a1.mask, .int .i64 a1.delta, .slice p1.sa p1.sn p1.sc, .slice p1.ka p1.kn p1.kc, .int .i64 a1.step, .slice p1.ha p1.hn p1.hc, .int .i64 a1.status, .int .i64 a1.out] 26)) (w.heap.size + 1) 26 #[.int .i64 a1.P, .int .i64 a1.party, .int .i64 a1.input, .int .i64 a1.mask, .int .i64 a1.delta, .slice p1.sa p1.sn p1.sc, .slice p1.ka p1.kn p1.kc, .int .i64 a1.step, .slice p1.ha p1.hn p1.hc, .int .i64 a1.status, .int .i64 a1.out] := by simpa using ((Blk.new (w.alloc (.cells #[.int .i64 a0.P, .int .i64 a0.party, .int .i64 a0.input, .int .i64 a0.mask, .int .i64 a0.delta, .slice p0.sa p0.sn p0.sc, .slice p0.ka p0.kn p0.kc, .int .i64 a0.step, .slice p0.ha p0.hn p0.hc, .int .i64 a0.status, .int .i64 a0.out] 26)) 26 #[.int .i64 a1.P, .int .i64 a1.party, .int .i64 a1.input, .int .i64 a1.mask, .int .i64 a1.delta, .slice p1.sa p1.sn p1.sc, .slice p1.ka p1.kn p1.kc, .int .i64 a1.step, .slice p1.ha p1.hn p1.hc, .int .i64 a1.status, .int .i64 a1.out]) : Blk ((w.alloc (.cells #[.int .i64 a0.P, .int .i64 a0.party, .int .i64 a0.input, .int .i64 a0.mask, .int .i64 a0.delta, .slice p0.sa p0.sn p0.sc, .slice p0.ka p0.kn p0.kc, .int .i64 a0.step, .slice p0.ha p0.hn p0.hc, .int .i64 a0.status, .int .i64 a0.out] 26)).alloc (.cells #[.int .i64 a1.P, .int .i64 a1.party, .int .i64 a1.input, .int .i64 a1.mask, .int .i64 a1.delta, .slice p1.sa p1.sn p1.sc, .slice p1.ka p1.kn p1.kc, .int .i64 a1.step, .slice p1.ha p1.hn p1.hc, .int .i64 a1.status, .int .i64 a1.out] 26)) _ _ _)
      have S_w1' : w.heap.size + 2 ≤ ((w.alloc (.cells #[.int .i64 a0.P, .int .i64 a0.party, .int .i64 a0.input, .int .i64 a0.mask, .int .i64 a0.delta, .slice p0.sa p0.sn p0.sc, .slice p0.ka p0.kn p0.kc, .int .i64 a0.step, .slice p0.ha p0.hn p0.hc, .int .i64 a0.status, .int .i64 a0.out] 26)).alloc (.cells #[.int .i64 a1.P, .int .i64 a1.party, .int .i64 a1.input, .int .i64 a1.mask, .int .i64 a1.delta, .slice p1.sa p1.sn p1.sc, .slice p1.ka p1.kn p1.kc, .int .i64 a1.step, .slice p1.ha p1.hn p1.hc, .int .i64 a1.status, .int .i64 a1.out] 26)).heap.size := by simp
      generalize ((w.alloc (.cells #[.int .i64 a0.P, .int .i64 a0.party, .int .i64 a0.input, .int .i64 a0.mask, .int .i64 a0.delta, .slice p0.sa p0.sn p0.sc, .slice p0.ka p0.kn p0.kc, .int .i64 a0.step, .slice p0.ha p0.hn p0.hc, .int .i64 a0.status, .int .i64 a0.out] 26)).alloc (.cells #[.int .i64 a1.P, .int .i64 a1.party, .int .i64 a1.input, .int .i64 a1.mask, .int .i64 a1.delta, .slice p1.sa p1.sn p1.sc, .slice p1.ka p1.kn p1.kc, .int .i64 a1.step, .slice p1.ha p1.hn p1.hc, .int .i64 a1.status, .int .i64 a1.out] 26)) = w1' at *
      refine (szPlayer_o_yes a0 p0 (1048576) _ (z0.below V_w1') (by omega) (by omega)).mono ?_
      rintro e w2' ⟨rfl, u_w2'⟩
      replace B_p0 := B_p0.below u_w2'
      replace B_p1 := B_p1.below u_w2'
      have V_w2' := V_w1'.trans (u_w2'.mono (V_w1').size)
      have S_w2' := u_w2'.size
      clear u_w2' V_w1'
      have e_p1_0 : w2'.cell? ⟨w.heap.size + 1, 0, none⟩ = some (.int .i64 a1.P) := B_p1.cell 0
      have e_p1_1 : w2'.cell? ⟨w.heap.size + 1, 1, none⟩ = some (.int .i64 a1.party) := B_p1.cell 1
      have e_p1_2 : w2'.cell? ⟨w.heap.size + 1, 2, none⟩ = some (.int .i64 a1.input) := B_p1.cell 2
      have e_p1_3 : w2'.cell? ⟨w.heap.size + 1, 3, none⟩ = some (.int .i64 a1.mask) := B_p1.cell 3
      have e_p1_4 : w2'.cell? ⟨w.heap.size + 1, 4, none⟩ = some (.int .i64 a1.delta) := B_p1.cell 4
      have e_p1_5 : w2'.cell? ⟨w.heap.size + 1, 5, none⟩ = some (.slice p1.sa p1.sn p1.sc) := B_p1.cell 5
      have e_p1_6 : w2'.cell? ⟨w.heap.size + 1, 6, none⟩ = some (.slice p1.ka p1.kn p1.kc) := B_p1.cell 6
      have e_p1_7 : w2'.cell? ⟨w.heap.size + 1, 7, none⟩ = some (.int .i64 a1.step) := B_p1.cell 7
      have e_p1_8 : w2'.cell? ⟨w.heap.size + 1, 8, none⟩ = some (.slice p1.ha p1.hn p1.hc) := B_p1.cell 8
      have e_p1_9 : w2'.cell? ⟨w.heap.size + 1, 9, none⟩ = some (.int .i64 a1.status) := B_p1.cell 9
      have e_p1_10 : w2'.cell? ⟨w.heap.size + 1, 10, none⟩ = some (.int .i64 a1.out) := B_p1.cell 10
      go_wp2_with fail
      clear e_p1_0 e_p1_1 e_p1_2 e_p1_3 e_p1_4 e_p1_5 e_p1_6 e_p1_7 e_p1_8 e_p1_9 e_p1_10
      refine (szPlayer_o_yes a1 p1 (1048576 - (szP p0 a0.shares a0.keys a0.heard : Int)) _ (z1.below V_w2') (by omega) (by omega)).mono ?_
      rintro e w3' ⟨rfl, u_w3'⟩
      replace B_p0 := B_p0.below u_w3'
      replace B_p1 := B_p1.below u_w3'
      have V_w3' := V_w2'.trans (u_w3'.mono (V_w2').size)
      have S_w3' := u_w3'.size
      clear u_w3' V_w2'
      have hlf : (0 : Int) ≤ 1048576 - (szP p0 a0.shares a0.keys a0.heard : Int) - (szP p1 a1.shares a1.keys a1.heard : Int) := by omega
      have hcn0 := z0.cnt (by omega)
      replace ht0 : (szP p0 a0.shares a0.keys a0.heard : Int) ≤ 1048576 := by omega
      have hcn1 := z1.cnt (by omega)
      replace ht1 : (szP p1 a1.shares a1.keys a1.heard : Int) ≤ 1048576 := by omega
      have e_p0_0 : w3'.cell? ⟨w.heap.size, 0, none⟩ = some (.int .i64 a0.P) := B_p0.cell 0
      have e_p0_1 : w3'.cell? ⟨w.heap.size, 1, none⟩ = some (.int .i64 a0.party) := B_p0.cell 1
      have e_p0_2 : w3'.cell? ⟨w.heap.size, 2, none⟩ = some (.int .i64 a0.input) := B_p0.cell 2
      have e_p0_3 : w3'.cell? ⟨w.heap.size, 3, none⟩ = some (.int .i64 a0.mask) := B_p0.cell 3
      have e_p0_4 : w3'.cell? ⟨w.heap.size, 4, none⟩ = some (.int .i64 a0.delta) := B_p0.cell 4
      have e_p0_5 : w3'.cell? ⟨w.heap.size, 5, none⟩ = some (.slice p0.sa p0.sn p0.sc) := B_p0.cell 5
      have e_p0_6 : w3'.cell? ⟨w.heap.size, 6, none⟩ = some (.slice p0.ka p0.kn p0.kc) := B_p0.cell 6
      have e_p0_7 : w3'.cell? ⟨w.heap.size, 7, none⟩ = some (.int .i64 a0.step) := B_p0.cell 7
      have e_p0_8 : w3'.cell? ⟨w.heap.size, 8, none⟩ = some (.slice p0.ha p0.hn p0.hc) := B_p0.cell 8
      have e_p0_9 : w3'.cell? ⟨w.heap.size, 9, none⟩ = some (.int .i64 a0.status) := B_p0.cell 9
      have e_p0_10 : w3'.cell? ⟨w.heap.size, 10, none⟩ = some (.int .i64 a0.out) := B_p0.cell 10
      have e_p1_0 : w3'.cell? ⟨w.heap.size + 1, 0, none⟩ = some (.int .i64 a1.P) := B_p1.cell 0
      have e_p1_1 : w3'.cell? ⟨w.heap.size + 1, 1, none⟩ = some (.int .i64 a1.party) := B_p1.cell 1
      have e_p1_2 : w3'.cell? ⟨w.heap.size + 1, 2, none⟩ = some (.int .i64 a1.input) := B_p1.cell 2
      have e_p1_3 : w3'.cell? ⟨w.heap.size + 1, 3, none⟩ = some (.int .i64 a1.mask) := B_p1.cell 3
      have e_p1_4 : w3'.cell? ⟨w.heap.size + 1, 4, none⟩ = some (.int .i64 a1.delta) := B_p1.cell 4
      have e_p1_5 : w3'.cell? ⟨w.heap.size + 1, 5, none⟩ = some (.slice p1.sa p1.sn p1.sc) := B_p1.cell 5
      have e_p1_6 : w3'.cell? ⟨w.heap.size + 1, 6, none⟩ = some (.slice p1.ka p1.kn p1.kc) := B_p1.cell 6
      have e_p1_7 : w3'.cell? ⟨w.heap.size + 1, 7, none⟩ = some (.int .i64 a1.step) := B_p1.cell 7
      have e_p1_8 : w3'.cell? ⟨w.heap.size + 1, 8, none⟩ = some (.slice p1.ha p1.hn p1.hc) := B_p1.cell 8
      have e_p1_9 : w3'.cell? ⟨w.heap.size + 1, 9, none⟩ = some (.int .i64 a1.status) := B_p1.cell 9
      have e_p1_10 : w3'.cell? ⟨w.heap.size + 1, 10, none⟩ = some (.int .i64 a1.out) := B_p1.cell 10
      go_wp2
      go_region_held3 (fun W => W.cell? ⟨w.heap.size, 0, none⟩ = some (.int .i64 a0.P) ∧ W.cell? ⟨w.heap.size, 1, none⟩ = some (.int .i64 a0.party) ∧ W.cell? ⟨w.heap.size, 2, none⟩ = some (.int .i64 a0.input) ∧ W.cell? ⟨w.heap.size, 3, none⟩ = some (.int .i64 a0.mask) ∧ W.cell? ⟨w.heap.size, 4, none⟩ = some (.int .i64 a0.delta) ∧ W.cell? ⟨w.heap.size, 5, none⟩ = some (.slice p0.sa p0.sn p0.sc) ∧ W.cell? ⟨w.heap.size, 6, none⟩ = some (.slice p0.ka p0.kn p0.kc) ∧ W.cell? ⟨w.heap.size, 7, none⟩ = some (.int .i64 a0.step) ∧ W.cell? ⟨w.heap.size, 8, none⟩ = some (.slice p0.ha p0.hn p0.hc) ∧ W.cell? ⟨w.heap.size, 9, none⟩ = some (.int .i64 a0.status) ∧ W.cell? ⟨w.heap.size, 10, none⟩ = some (.int .i64 a0.out) ∧ W.cell? ⟨w.heap.size + 1, 0, none⟩ = some (.int .i64 a1.P) ∧ W.cell? ⟨w.heap.size + 1, 1, none⟩ = some (.int .i64 a1.party) ∧ W.cell? ⟨w.heap.size + 1, 2, none⟩ = some (.int .i64 a1.input) ∧ W.cell? ⟨w.heap.size + 1, 3, none⟩ = some (.int .i64 a1.mask) ∧ W.cell? ⟨w.heap.size + 1, 4, none⟩ = some (.int .i64 a1.delta) ∧ W.cell? ⟨w.heap.size + 1, 5, none⟩ = some (.slice p1.sa p1.sn p1.sc) ∧ W.cell? ⟨w.heap.size + 1, 6, none⟩ = some (.slice p1.ka p1.kn p1.kc) ∧ W.cell? ⟨w.heap.size + 1, 7, none⟩ = some (.int .i64 a1.step) ∧ W.cell? ⟨w.heap.size + 1, 8, none⟩ = some (.slice p1.ha p1.hn p1.hc) ∧ W.cell? ⟨w.heap.size + 1, 9, none⟩ = some (.int .i64 a1.status) ∧ W.cell? ⟨w.heap.size + 1, 10, none⟩ = some (.int .i64 a1.out))
        (first | exact ⟨keepC u_w6' (keepC u_w5' (keepC u_w4' (e_p0_0))), keepC u_w6' (keepC u_w5' (keepC u_w4' (e_p0_1))), keepC u_w6' (keepC u_w5' (keepC u_w4' (e_p0_2))), keepC u_w6' (keepC u_w5' (keepC u_w4' (e_p0_3))), keepC u_w6' (keepC u_w5' (keepC u_w4' (e_p0_4))), keepC u_w6' (keepC u_w5' (keepC u_w4' (e_p0_5))), keepC u_w6' (keepC u_w5' (keepC u_w4' (e_p0_6))), keepC u_w6' (keepC u_w5' (keepC u_w4' (e_p0_7))), keepC u_w6' (keepC u_w5' (keepC u_w4' (e_p0_8))), keepC u_w6' (keepC u_w5' (keepC u_w4' (e_p0_9))), keepC u_w6' (keepC u_w5' (keepC u_w4' (e_p0_10))), keepC u_w6' (keepC u_w5' (keepC u_w4' (e_p1_0))), keepC u_w6' (keepC u_w5' (keepC u_w4' (e_p1_1))), keepC u_w6' (keepC u_w5' (keepC u_w4' (e_p1_2))), keepC u_w6' (keepC u_w5' (keepC u_w4' (e_p1_3))), keepC u_w6' (keepC u_w5' (keepC u_w4' (e_p1_4))), keepC u_w6' (keepC u_w5' (keepC u_w4' (e_p1_5))), keepC u_w6' (keepC u_w5' (keepC u_w4' (e_p1_6))), keepC u_w6' (keepC u_w5' (keepC u_w4' (e_p1_7))), keepC u_w6' (keepC u_w5' (keepC u_w4' (e_p1_8))), keepC u_w6' (keepC u_w5' (keepC u_w4' (e_p1_9))), keepC u_w6' (keepC u_w5' (keepC u_w4' (e_p1_10)))⟩ | exact ⟨keepC u_w5' (keepC u_w4' (e_p0_0)), keepC u_w5' (keepC u_w4' (e_p0_1)), keepC u_w5' (keepC u_w4' (e_p0_2)), keepC u_w5' (keepC u_w4' (e_p0_3)), keepC u_w5' (keepC u_w4' (e_p0_4)), keepC u_w5' (keepC u_w4' (e_p0_5)), keepC u_w5' (keepC u_w4' (e_p0_6)), keepC u_w5' (keepC u_w4' (e_p0_7)), keepC u_w5' (keepC u_w4' (e_p0_8)), keepC u_w5' (keepC u_w4' (e_p0_9)), keepC u_w5' (keepC u_w4' (e_p0_10)), keepC u_w5' (keepC u_w4' (e_p1_0)), keepC u_w5' (keepC u_w4' (e_p1_1)), keepC u_w5' (keepC u_w4' (e_p1_2)), keepC u_w5' (keepC u_w4' (e_p1_3)), keepC u_w5' (keepC u_w4' (e_p1_4)), keepC u_w5' (keepC u_w4' (e_p1_5)), keepC u_w5' (keepC u_w4' (e_p1_6)), keepC u_w5' (keepC u_w4' (e_p1_7)), keepC u_w5' (keepC u_w4' (e_p1_8)), keepC u_w5' (keepC u_w4' (e_p1_9)), keepC u_w5' (keepC u_w4' (e_p1_10))⟩ | exact ⟨keepC u_w4' (e_p0_0), keepC u_w4' (e_p0_1), keepC u_w4' (e_p0_2), keepC u_w4' (e_p0_3), keepC u_w4' (e_p0_4), keepC u_w4' (e_p0_5), keepC u_w4' (e_p0_6), keepC u_w4' (e_p0_7), keepC u_w4' (e_p0_8), keepC u_w4' (e_p0_9), keepC u_w4' (e_p0_10), keepC u_w4' (e_p1_0), keepC u_w4' (e_p1_1), keepC u_w4' (e_p1_2), keepC u_w4' (e_p1_3), keepC u_w4' (e_p1_4), keepC u_w4' (e_p1_5), keepC u_w4' (e_p1_6), keepC u_w4' (e_p1_7), keepC u_w4' (e_p1_8), keepC u_w4' (e_p1_9), keepC u_w4' (e_p1_10)⟩ | go_keep)
        (first | ((with_reducible refine (toPlayer_o a0 p0 _ (z0.below (V_w3'.drew)) ht0).mono ?_); rintro e w4' ⟨y0, F_y0, rfl, oy0, u_w4'⟩) | ((with_reducible refine (toPlayer_o a1 p1 _ (z1.below ((V_w3'.drew).trans (u_w4'.mono (V_w3'.drew).size))) ht1).mono ?_); rintro e w5' ⟨y1, F_y1, rfl, oy1, u_w5'⟩) | ((with_reducible refine (CS.out _ _ _ ((oy0.below u_w5').rd) (oy1.rd) (LX.out.below (((V_w3'.drew).trans (u_w4'.mono (V_w3'.drew).size)).trans (u_w5'.mono ((V_w3'.drew).trans (u_w4'.mono (V_w3'.drew).size)).size)))).mono ?_); rintro e w6' ⟨r0, rn0, rc0, rfl, or0, u_w6'⟩))
      have CC0 := (u_w4').trans (u_w5'.mono (u_w4').size)
      have S_bw6 : w3'.heap.size ≤ w5'.heap.size := CC0.size
      have CC1 := (CC0).trans (u_w6'.mono (CC0).size)
      have u_all : Below w3'.heap.size w3' w6' := (Below.refl _ _).drew.trans CC1
      clear u_w4' u_w5' u_w6' CC0 CC1 e_p0_0 e_p0_1 e_p0_2 e_p0_3 e_p0_4 e_p0_5 e_p0_6 e_p0_7 e_p0_8 e_p0_9 e_p0_10 e_p1_0 e_p1_1 e_p1_2 e_p1_3 e_p1_4 e_p1_5 e_p1_6 e_p1_7 e_p1_8 e_p1_9 e_p1_10 oy0 oy1
      replace B_p0 := B_p0.below u_all
      replace B_p1 := B_p1.below u_all
      have V_w6' := V_w3'.trans (u_all.mono (V_w3').size)
      have S_w6' := u_all.size
      clear u_all V_w3'
      have Q_or0 := Lib.hid or0.feet
      have e_p0_0 : w6'.cell? ⟨w.heap.size, 0, none⟩ = some (.int .i64 a0.P) := B_p0.cell 0
      have e_p0_1 : w6'.cell? ⟨w.heap.size, 1, none⟩ = some (.int .i64 a0.party) := B_p0.cell 1
      have e_p0_2 : w6'.cell? ⟨w.heap.size, 2, none⟩ = some (.int .i64 a0.input) := B_p0.cell 2
      have e_p0_3 : w6'.cell? ⟨w.heap.size, 3, none⟩ = some (.int .i64 a0.mask) := B_p0.cell 3
      have e_p0_4 : w6'.cell? ⟨w.heap.size, 4, none⟩ = some (.int .i64 a0.delta) := B_p0.cell 4
      have e_p0_5 : w6'.cell? ⟨w.heap.size, 5, none⟩ = some (.slice p0.sa p0.sn p0.sc) := B_p0.cell 5
      have e_p0_6 : w6'.cell? ⟨w.heap.size, 6, none⟩ = some (.slice p0.ka p0.kn p0.kc) := B_p0.cell 6
      have e_p0_7 : w6'.cell? ⟨w.heap.size, 7, none⟩ = some (.int .i64 a0.step) := B_p0.cell 7
      have e_p0_8 : w6'.cell? ⟨w.heap.size, 8, none⟩ = some (.slice p0.ha p0.hn p0.hc) := B_p0.cell 8
      have e_p0_9 : w6'.cell? ⟨w.heap.size, 9, none⟩ = some (.int .i64 a0.status) := B_p0.cell 9
      have e_p0_10 : w6'.cell? ⟨w.heap.size, 10, none⟩ = some (.int .i64 a0.out) := B_p0.cell 10
      go_wp2_with fail
      clear e_p0_0 e_p0_1 e_p0_2 e_p0_3 e_p0_4 e_p0_5 e_p0_6 e_p0_7 e_p0_8 e_p0_9 e_p0_10
      refine (toPlayer_o a0 p0 _ (z0.below V_w6') ht0).mono ?_
      rintro e w7' ⟨x0, F_x0, rfl, ox0, u_w7'⟩
      replace B_p0 := B_p0.below u_w7'
      replace B_p1 := B_p1.below u_w7'
      replace or0 := or0.below u_w7'
      have V_w7' := V_w6'.trans (u_w7'.mono (V_w6').size)
      have S_w7' := u_w7'.size
      clear u_w7' V_w6'
      have Q_ox0 := Lib.hid ox0.feet
      have e_p1_0 : w7'.cell? ⟨w.heap.size + 1, 0, none⟩ = some (.int .i64 a1.P) := B_p1.cell 0
      have e_p1_0_0 : (w7'.alloc (.cells #[.int .i64 a0.P, .int .i64 a0.party, .int .i64 a0.input, .int .i64 a0.mask, .int .i64 a0.delta, .slice x0.sa x0.sn x0.sc, .slice x0.ka x0.kn x0.kc, .int .i64 a0.step, .slice x0.ha x0.hn x0.hc, .int .i64 a0.status, .int .i64 a0.out] 31)).cell? ⟨w.heap.size + 1, 0, none⟩ = some (.int .i64 a1.P) := keepA _ e_p1_0
      have e_p1_1 : w7'.cell? ⟨w.heap.size + 1, 1, none⟩ = some (.int .i64 a1.party) := B_p1.cell 1
      have e_p1_1_0 : (w7'.alloc (.cells #[.int .i64 a0.P, .int .i64 a0.party, .int .i64 a0.input, .int .i64 a0.mask, .int .i64 a0.delta, .slice x0.sa x0.sn x0.sc, .slice x0.ka x0.kn x0.kc, .int .i64 a0.step, .slice x0.ha x0.hn x0.hc, .int .i64 a0.status, .int .i64 a0.out] 31)).cell? ⟨w.heap.size + 1, 1, none⟩ = some (.int .i64 a1.party) := keepA _ e_p1_1
      have e_p1_2 : w7'.cell? ⟨w.heap.size + 1, 2, none⟩ = some (.int .i64 a1.input) := B_p1.cell 2
      have e_p1_2_0 : (w7'.alloc (.cells #[.int .i64 a0.P, .int .i64 a0.party, .int .i64 a0.input, .int .i64 a0.mask, .int .i64 a0.delta, .slice x0.sa x0.sn x0.sc, .slice x0.ka x0.kn x0.kc, .int .i64 a0.step, .slice x0.ha x0.hn x0.hc, .int .i64 a0.status, .int .i64 a0.out] 31)).cell? ⟨w.heap.size + 1, 2, none⟩ = some (.int .i64 a1.input) := keepA _ e_p1_2
      have e_p1_3 : w7'.cell? ⟨w.heap.size + 1, 3, none⟩ = some (.int .i64 a1.mask) := B_p1.cell 3
      have e_p1_3_0 : (w7'.alloc (.cells #[.int .i64 a0.P, .int .i64 a0.party, .int .i64 a0.input, .int .i64 a0.mask, .int .i64 a0.delta, .slice x0.sa x0.sn x0.sc, .slice x0.ka x0.kn x0.kc, .int .i64 a0.step, .slice x0.ha x0.hn x0.hc, .int .i64 a0.status, .int .i64 a0.out] 31)).cell? ⟨w.heap.size + 1, 3, none⟩ = some (.int .i64 a1.mask) := keepA _ e_p1_3
      have e_p1_4 : w7'.cell? ⟨w.heap.size + 1, 4, none⟩ = some (.int .i64 a1.delta) := B_p1.cell 4
      have e_p1_4_0 : (w7'.alloc (.cells #[.int .i64 a0.P, .int .i64 a0.party, .int .i64 a0.input, .int .i64 a0.mask, .int .i64 a0.delta, .slice x0.sa x0.sn x0.sc, .slice x0.ka x0.kn x0.kc, .int .i64 a0.step, .slice x0.ha x0.hn x0.hc, .int .i64 a0.status, .int .i64 a0.out] 31)).cell? ⟨w.heap.size + 1, 4, none⟩ = some (.int .i64 a1.delta) := keepA _ e_p1_4
      have e_p1_5 : w7'.cell? ⟨w.heap.size + 1, 5, none⟩ = some (.slice p1.sa p1.sn p1.sc) := B_p1.cell 5
      have e_p1_5_0 : (w7'.alloc (.cells #[.int .i64 a0.P, .int .i64 a0.party, .int .i64 a0.input, .int .i64 a0.mask, .int .i64 a0.delta, .slice x0.sa x0.sn x0.sc, .slice x0.ka x0.kn x0.kc, .int .i64 a0.step, .slice x0.ha x0.hn x0.hc, .int .i64 a0.status, .int .i64 a0.out] 31)).cell? ⟨w.heap.size + 1, 5, none⟩ = some (.slice p1.sa p1.sn p1.sc) := keepA _ e_p1_5
      have e_p1_6 : w7'.cell? ⟨w.heap.size + 1, 6, none⟩ = some (.slice p1.ka p1.kn p1.kc) := B_p1.cell 6
      have e_p1_6_0 : (w7'.alloc (.cells #[.int .i64 a0.P, .int .i64 a0.party, .int .i64 a0.input, .int .i64 a0.mask, .int .i64 a0.delta, .slice x0.sa x0.sn x0.sc, .slice x0.ka x0.kn x0.kc, .int .i64 a0.step, .slice x0.ha x0.hn x0.hc, .int .i64 a0.status, .int .i64 a0.out] 31)).cell? ⟨w.heap.size + 1, 6, none⟩ = some (.slice p1.ka p1.kn p1.kc) := keepA _ e_p1_6
      have e_p1_7 : w7'.cell? ⟨w.heap.size + 1, 7, none⟩ = some (.int .i64 a1.step) := B_p1.cell 7
      have e_p1_7_0 : (w7'.alloc (.cells #[.int .i64 a0.P, .int .i64 a0.party, .int .i64 a0.input, .int .i64 a0.mask, .int .i64 a0.delta, .slice x0.sa x0.sn x0.sc, .slice x0.ka x0.kn x0.kc, .int .i64 a0.step, .slice x0.ha x0.hn x0.hc, .int .i64 a0.status, .int .i64 a0.out] 31)).cell? ⟨w.heap.size + 1, 7, none⟩ = some (.int .i64 a1.step) := keepA _ e_p1_7
      have e_p1_8 : w7'.cell? ⟨w.heap.size + 1, 8, none⟩ = some (.slice p1.ha p1.hn p1.hc) := B_p1.cell 8
      have e_p1_8_0 : (w7'.alloc (.cells #[.int .i64 a0.P, .int .i64 a0.party, .int .i64 a0.input, .int .i64 a0.mask, .int .i64 a0.delta, .slice x0.sa x0.sn x0.sc, .slice x0.ka x0.kn x0.kc, .int .i64 a0.step, .slice x0.ha x0.hn x0.hc, .int .i64 a0.status, .int .i64 a0.out] 31)).cell? ⟨w.heap.size + 1, 8, none⟩ = some (.slice p1.ha p1.hn p1.hc) := keepA _ e_p1_8
      have e_p1_9 : w7'.cell? ⟨w.heap.size + 1, 9, none⟩ = some (.int .i64 a1.status) := B_p1.cell 9
      have e_p1_9_0 : (w7'.alloc (.cells #[.int .i64 a0.P, .int .i64 a0.party, .int .i64 a0.input, .int .i64 a0.mask, .int .i64 a0.delta, .slice x0.sa x0.sn x0.sc, .slice x0.ka x0.kn x0.kc, .int .i64 a0.step, .slice x0.ha x0.hn x0.hc, .int .i64 a0.status, .int .i64 a0.out] 31)).cell? ⟨w.heap.size + 1, 9, none⟩ = some (.int .i64 a1.status) := keepA _ e_p1_9
      have e_p1_10 : w7'.cell? ⟨w.heap.size + 1, 10, none⟩ = some (.int .i64 a1.out) := B_p1.cell 10
      have e_p1_10_0 : (w7'.alloc (.cells #[.int .i64 a0.P, .int .i64 a0.party, .int .i64 a0.input, .int .i64 a0.mask, .int .i64 a0.delta, .slice x0.sa x0.sn x0.sc, .slice x0.ka x0.kn x0.kc, .int .i64 a0.step, .slice x0.ha x0.hn x0.hc, .int .i64 a0.status, .int .i64 a0.out] 31)).cell? ⟨w.heap.size + 1, 10, none⟩ = some (.int .i64 a1.out) := keepA _ e_p1_10
      go_wp2_with fail
      clear e_p1_0 e_p1_0_0 e_p1_1 e_p1_1_0 e_p1_2 e_p1_2_0 e_p1_3 e_p1_3_0 e_p1_4 e_p1_4_0 e_p1_5 e_p1_5_0 e_p1_6 e_p1_6_0 e_p1_7 e_p1_7_0 e_p1_8 e_p1_8_0 e_p1_9 e_p1_9_0 e_p1_10 e_p1_10_0
      have V_w8' : Below w.heap.size w (w7'.alloc (.cells #[.int .i64 a0.P, .int .i64 a0.party, .int .i64 a0.input, .int .i64 a0.mask, .int .i64 a0.delta, .slice x0.sa x0.sn x0.sc, .slice x0.ka x0.kn x0.kc, .int .i64 a0.step, .slice x0.ha x0.hn x0.hc, .int .i64 a0.status, .int .i64 a0.out] 31)) := ((V_w7').alloc (by have := (V_w7').size; first | exact this | (simp; omega) | simp) _)
      replace B_p0 := B_p0.alloc (.cells #[.int .i64 a0.P, .int .i64 a0.party, .int .i64 a0.input, .int .i64 a0.mask, .int .i64 a0.delta, .slice x0.sa x0.sn x0.sc, .slice x0.ka x0.kn x0.kc, .int .i64 a0.step, .slice x0.ha x0.hn x0.hc, .int .i64 a0.status, .int .i64 a0.out] 31)
      replace B_p1 := B_p1.alloc (.cells #[.int .i64 a0.P, .int .i64 a0.party, .int .i64 a0.input, .int .i64 a0.mask, .int .i64 a0.delta, .slice x0.sa x0.sn x0.sc, .slice x0.ka x0.kn x0.kc, .int .i64 a0.step, .slice x0.ha x0.hn x0.hc, .int .i64 a0.status, .int .i64 a0.out] 31)
      replace or0 := or0.alloc (.cells #[.int .i64 a0.P, .int .i64 a0.party, .int .i64 a0.input, .int .i64 a0.mask, .int .i64 a0.delta, .slice x0.sa x0.sn x0.sc, .slice x0.ka x0.kn x0.kc, .int .i64 a0.step, .slice x0.ha x0.hn x0.hc, .int .i64 a0.status, .int .i64 a0.out] 31)
      replace ox0 := ox0.alloc (.cells #[.int .i64 a0.P, .int .i64 a0.party, .int .i64 a0.input, .int .i64 a0.mask, .int .i64 a0.delta, .slice x0.sa x0.sn x0.sc, .slice x0.ka x0.kn x0.kc, .int .i64 a0.step, .slice x0.ha x0.hn x0.hc, .int .i64 a0.status, .int .i64 a0.out] 31)
      have B_x0 : Blk (w7'.alloc (.cells #[.int .i64 a0.P, .int .i64 a0.party, .int .i64 a0.input, .int .i64 a0.mask, .int .i64 a0.delta, .slice x0.sa x0.sn x0.sc, .slice x0.ka x0.kn x0.kc, .int .i64 a0.step, .slice x0.ha x0.hn x0.hc, .int .i64 a0.status, .int .i64 a0.out] 31)) (w7'.heap.size) 31 #[.int .i64 a0.P, .int .i64 a0.party, .int .i64 a0.input, .int .i64 a0.mask, .int .i64 a0.delta, .slice x0.sa x0.sn x0.sc, .slice x0.ka x0.kn x0.kc, .int .i64 a0.step, .slice x0.ha x0.hn x0.hc, .int .i64 a0.status, .int .i64 a0.out] := Blk.new w7' 31 #[.int .i64 a0.P, .int .i64 a0.party, .int .i64 a0.input, .int .i64 a0.mask, .int .i64 a0.delta, .slice x0.sa x0.sn x0.sc, .slice x0.ka x0.kn x0.kc, .int .i64 a0.step, .slice x0.ha x0.hn x0.hc, .int .i64 a0.status, .int .i64 a0.out]
      have S_w8' : w7'.heap.size + 1 ≤ (w7'.alloc (.cells #[.int .i64 a0.P, .int .i64 a0.party, .int .i64 a0.input, .int .i64 a0.mask, .int .i64 a0.delta, .slice x0.sa x0.sn x0.sc, .slice x0.ka x0.kn x0.kc, .int .i64 a0.step, .slice x0.ha x0.hn x0.hc, .int .i64 a0.status, .int .i64 a0.out] 31)).heap.size := by simp
      generalize (w7'.alloc (.cells #[.int .i64 a0.P, .int .i64 a0.party, .int .i64 a0.input, .int .i64 a0.mask, .int .i64 a0.delta, .slice x0.sa x0.sn x0.sc, .slice x0.ka x0.kn x0.kc, .int .i64 a0.step, .slice x0.ha x0.hn x0.hc, .int .i64 a0.status, .int .i64 a0.out] 31)) = w8' at *
      clear V_w7'
      refine (toPlayer_o a1 p1 _ (z1.below V_w8') ht1).mono ?_
      rintro e w9' ⟨x1, F_x1, rfl, ox1, u_w9'⟩
      replace B_p0 := B_p0.below u_w9'
      replace B_p1 := B_p1.below u_w9'
      replace B_x0 := B_x0.below u_w9'
      replace or0 := or0.below u_w9'
      replace ox0 := ox0.below u_w9'
      have V_w9' := V_w8'.trans (u_w9'.mono (V_w8').size)
      have S_w9' := u_w9'.size
      clear u_w9' V_w8'
      have Q_ox1 := Lib.hid ox1.feet
      have e_x0_0 : w9'.cell? ⟨w7'.heap.size, 0, none⟩ = some (.int .i64 a0.P) := B_x0.cell 0
      have e_x0_0_0 : (w9'.alloc (.cells #[.int .i64 a1.P, .int .i64 a1.party, .int .i64 a1.input, .int .i64 a1.mask, .int .i64 a1.delta, .slice x1.sa x1.sn x1.sc, .slice x1.ka x1.kn x1.kc, .int .i64 a1.step, .slice x1.ha x1.hn x1.hc, .int .i64 a1.status, .int .i64 a1.out] 31)).cell? ⟨w7'.heap.size, 0, none⟩ = some (.int .i64 a0.P) := keepA _ e_x0_0
      have e_x0_1 : w9'.cell? ⟨w7'.heap.size, 1, none⟩ = some (.int .i64 a0.party) := B_x0.cell 1
      have e_x0_1_0 : (w9'.alloc (.cells #[.int .i64 a1.P, .int .i64 a1.party, .int .i64 a1.input, .int .i64 a1.mask, .int .i64 a1.delta, .slice x1.sa x1.sn x1.sc, .slice x1.ka x1.kn x1.kc, .int .i64 a1.step, .slice x1.ha x1.hn x1.hc, .int .i64 a1.status, .int .i64 a1.out] 31)).cell? ⟨w7'.heap.size, 1, none⟩ = some (.int .i64 a0.party) := keepA _ e_x0_1
      have e_x0_2 : w9'.cell? ⟨w7'.heap.size, 2, none⟩ = some (.int .i64 a0.input) := B_x0.cell 2
      have e_x0_2_0 : (w9'.alloc (.cells #[.int .i64 a1.P, .int .i64 a1.party, .int .i64 a1.input, .int .i64 a1.mask, .int .i64 a1.delta, .slice x1.sa x1.sn x1.sc, .slice x1.ka x1.kn x1.kc, .int .i64 a1.step, .slice x1.ha x1.hn x1.hc, .int .i64 a1.status, .int .i64 a1.out] 31)).cell? ⟨w7'.heap.size, 2, none⟩ = some (.int .i64 a0.input) := keepA _ e_x0_2
      have e_x0_3 : w9'.cell? ⟨w7'.heap.size, 3, none⟩ = some (.int .i64 a0.mask) := B_x0.cell 3
      have e_x0_3_0 : (w9'.alloc (.cells #[.int .i64 a1.P, .int .i64 a1.party, .int .i64 a1.input, .int .i64 a1.mask, .int .i64 a1.delta, .slice x1.sa x1.sn x1.sc, .slice x1.ka x1.kn x1.kc, .int .i64 a1.step, .slice x1.ha x1.hn x1.hc, .int .i64 a1.status, .int .i64 a1.out] 31)).cell? ⟨w7'.heap.size, 3, none⟩ = some (.int .i64 a0.mask) := keepA _ e_x0_3
      have e_x0_4 : w9'.cell? ⟨w7'.heap.size, 4, none⟩ = some (.int .i64 a0.delta) := B_x0.cell 4
      have e_x0_4_0 : (w9'.alloc (.cells #[.int .i64 a1.P, .int .i64 a1.party, .int .i64 a1.input, .int .i64 a1.mask, .int .i64 a1.delta, .slice x1.sa x1.sn x1.sc, .slice x1.ka x1.kn x1.kc, .int .i64 a1.step, .slice x1.ha x1.hn x1.hc, .int .i64 a1.status, .int .i64 a1.out] 31)).cell? ⟨w7'.heap.size, 4, none⟩ = some (.int .i64 a0.delta) := keepA _ e_x0_4
      have e_x0_5 : w9'.cell? ⟨w7'.heap.size, 5, none⟩ = some (.slice x0.sa x0.sn x0.sc) := B_x0.cell 5
      have e_x0_5_0 : (w9'.alloc (.cells #[.int .i64 a1.P, .int .i64 a1.party, .int .i64 a1.input, .int .i64 a1.mask, .int .i64 a1.delta, .slice x1.sa x1.sn x1.sc, .slice x1.ka x1.kn x1.kc, .int .i64 a1.step, .slice x1.ha x1.hn x1.hc, .int .i64 a1.status, .int .i64 a1.out] 31)).cell? ⟨w7'.heap.size, 5, none⟩ = some (.slice x0.sa x0.sn x0.sc) := keepA _ e_x0_5
      have e_x0_6 : w9'.cell? ⟨w7'.heap.size, 6, none⟩ = some (.slice x0.ka x0.kn x0.kc) := B_x0.cell 6
      have e_x0_6_0 : (w9'.alloc (.cells #[.int .i64 a1.P, .int .i64 a1.party, .int .i64 a1.input, .int .i64 a1.mask, .int .i64 a1.delta, .slice x1.sa x1.sn x1.sc, .slice x1.ka x1.kn x1.kc, .int .i64 a1.step, .slice x1.ha x1.hn x1.hc, .int .i64 a1.status, .int .i64 a1.out] 31)).cell? ⟨w7'.heap.size, 6, none⟩ = some (.slice x0.ka x0.kn x0.kc) := keepA _ e_x0_6
      have e_x0_7 : w9'.cell? ⟨w7'.heap.size, 7, none⟩ = some (.int .i64 a0.step) := B_x0.cell 7
      have e_x0_7_0 : (w9'.alloc (.cells #[.int .i64 a1.P, .int .i64 a1.party, .int .i64 a1.input, .int .i64 a1.mask, .int .i64 a1.delta, .slice x1.sa x1.sn x1.sc, .slice x1.ka x1.kn x1.kc, .int .i64 a1.step, .slice x1.ha x1.hn x1.hc, .int .i64 a1.status, .int .i64 a1.out] 31)).cell? ⟨w7'.heap.size, 7, none⟩ = some (.int .i64 a0.step) := keepA _ e_x0_7
      have e_x0_8 : w9'.cell? ⟨w7'.heap.size, 8, none⟩ = some (.slice x0.ha x0.hn x0.hc) := B_x0.cell 8
      have e_x0_8_0 : (w9'.alloc (.cells #[.int .i64 a1.P, .int .i64 a1.party, .int .i64 a1.input, .int .i64 a1.mask, .int .i64 a1.delta, .slice x1.sa x1.sn x1.sc, .slice x1.ka x1.kn x1.kc, .int .i64 a1.step, .slice x1.ha x1.hn x1.hc, .int .i64 a1.status, .int .i64 a1.out] 31)).cell? ⟨w7'.heap.size, 8, none⟩ = some (.slice x0.ha x0.hn x0.hc) := keepA _ e_x0_8
      have e_x0_9 : w9'.cell? ⟨w7'.heap.size, 9, none⟩ = some (.int .i64 a0.status) := B_x0.cell 9
      have e_x0_9_0 : (w9'.alloc (.cells #[.int .i64 a1.P, .int .i64 a1.party, .int .i64 a1.input, .int .i64 a1.mask, .int .i64 a1.delta, .slice x1.sa x1.sn x1.sc, .slice x1.ka x1.kn x1.kc, .int .i64 a1.step, .slice x1.ha x1.hn x1.hc, .int .i64 a1.status, .int .i64 a1.out] 31)).cell? ⟨w7'.heap.size, 9, none⟩ = some (.int .i64 a0.status) := keepA _ e_x0_9
      have e_x0_10 : w9'.cell? ⟨w7'.heap.size, 10, none⟩ = some (.int .i64 a0.out) := B_x0.cell 10
      have e_x0_10_0 : (w9'.alloc (.cells #[.int .i64 a1.P, .int .i64 a1.party, .int .i64 a1.input, .int .i64 a1.mask, .int .i64 a1.delta, .slice x1.sa x1.sn x1.sc, .slice x1.ka x1.kn x1.kc, .int .i64 a1.step, .slice x1.ha x1.hn x1.hc, .int .i64 a1.status, .int .i64 a1.out] 31)).cell? ⟨w7'.heap.size, 10, none⟩ = some (.int .i64 a0.out) := keepA _ e_x0_10
      go_wp2_with fail
      clear e_x0_0 e_x0_0_0 e_x0_1 e_x0_1_0 e_x0_2 e_x0_2_0 e_x0_3 e_x0_3_0 e_x0_4 e_x0_4_0 e_x0_5 e_x0_5_0 e_x0_6 e_x0_6_0 e_x0_7 e_x0_7_0 e_x0_8 e_x0_8_0 e_x0_9 e_x0_9_0 e_x0_10 e_x0_10_0
      have V_w10' : Below w.heap.size w (w9'.alloc (.cells #[.int .i64 a1.P, .int .i64 a1.party, .int .i64 a1.input, .int .i64 a1.mask, .int .i64 a1.delta, .slice x1.sa x1.sn x1.sc, .slice x1.ka x1.kn x1.kc, .int .i64 a1.step, .slice x1.ha x1.hn x1.hc, .int .i64 a1.status, .int .i64 a1.out] 31)) := ((V_w9').alloc (by have := (V_w9').size; first | exact this | (simp; omega) | simp) _)
      replace B_p0 := B_p0.alloc (.cells #[.int .i64 a1.P, .int .i64 a1.party, .int .i64 a1.input, .int .i64 a1.mask, .int .i64 a1.delta, .slice x1.sa x1.sn x1.sc, .slice x1.ka x1.kn x1.kc, .int .i64 a1.step, .slice x1.ha x1.hn x1.hc, .int .i64 a1.status, .int .i64 a1.out] 31)
      replace B_p1 := B_p1.alloc (.cells #[.int .i64 a1.P, .int .i64 a1.party, .int .i64 a1.input, .int .i64 a1.mask, .int .i64 a1.delta, .slice x1.sa x1.sn x1.sc, .slice x1.ka x1.kn x1.kc, .int .i64 a1.step, .slice x1.ha x1.hn x1.hc, .int .i64 a1.status, .int .i64 a1.out] 31)
      replace B_x0 := B_x0.alloc (.cells #[.int .i64 a1.P, .int .i64 a1.party, .int .i64 a1.input, .int .i64 a1.mask, .int .i64 a1.delta, .slice x1.sa x1.sn x1.sc, .slice x1.ka x1.kn x1.kc, .int .i64 a1.step, .slice x1.ha x1.hn x1.hc, .int .i64 a1.status, .int .i64 a1.out] 31)
      replace or0 := or0.alloc (.cells #[.int .i64 a1.P, .int .i64 a1.party, .int .i64 a1.input, .int .i64 a1.mask, .int .i64 a1.delta, .slice x1.sa x1.sn x1.sc, .slice x1.ka x1.kn x1.kc, .int .i64 a1.step, .slice x1.ha x1.hn x1.hc, .int .i64 a1.status, .int .i64 a1.out] 31)
      replace ox0 := ox0.alloc (.cells #[.int .i64 a1.P, .int .i64 a1.party, .int .i64 a1.input, .int .i64 a1.mask, .int .i64 a1.delta, .slice x1.sa x1.sn x1.sc, .slice x1.ka x1.kn x1.kc, .int .i64 a1.step, .slice x1.ha x1.hn x1.hc, .int .i64 a1.status, .int .i64 a1.out] 31)
      replace ox1 := ox1.alloc (.cells #[.int .i64 a1.P, .int .i64 a1.party, .int .i64 a1.input, .int .i64 a1.mask, .int .i64 a1.delta, .slice x1.sa x1.sn x1.sc, .slice x1.ka x1.kn x1.kc, .int .i64 a1.step, .slice x1.ha x1.hn x1.hc, .int .i64 a1.status, .int .i64 a1.out] 31)
      have B_x1 : Blk (w9'.alloc (.cells #[.int .i64 a1.P, .int .i64 a1.party, .int .i64 a1.input, .int .i64 a1.mask, .int .i64 a1.delta, .slice x1.sa x1.sn x1.sc, .slice x1.ka x1.kn x1.kc, .int .i64 a1.step, .slice x1.ha x1.hn x1.hc, .int .i64 a1.status, .int .i64 a1.out] 31)) (w9'.heap.size) 31 #[.int .i64 a1.P, .int .i64 a1.party, .int .i64 a1.input, .int .i64 a1.mask, .int .i64 a1.delta, .slice x1.sa x1.sn x1.sc, .slice x1.ka x1.kn x1.kc, .int .i64 a1.step, .slice x1.ha x1.hn x1.hc, .int .i64 a1.status, .int .i64 a1.out] := Blk.new w9' 31 #[.int .i64 a1.P, .int .i64 a1.party, .int .i64 a1.input, .int .i64 a1.mask, .int .i64 a1.delta, .slice x1.sa x1.sn x1.sc, .slice x1.ka x1.kn x1.kc, .int .i64 a1.step, .slice x1.ha x1.hn x1.hc, .int .i64 a1.status, .int .i64 a1.out]
      have S_w10' : w9'.heap.size + 1 ≤ (w9'.alloc (.cells #[.int .i64 a1.P, .int .i64 a1.party, .int .i64 a1.input, .int .i64 a1.mask, .int .i64 a1.delta, .slice x1.sa x1.sn x1.sc, .slice x1.ka x1.kn x1.kc, .int .i64 a1.step, .slice x1.ha x1.hn x1.hc, .int .i64 a1.status, .int .i64 a1.out] 31)).heap.size := by simp
      generalize (w9'.alloc (.cells #[.int .i64 a1.P, .int .i64 a1.party, .int .i64 a1.input, .int .i64 a1.mask, .int .i64 a1.delta, .slice x1.sa x1.sn x1.sc, .slice x1.ka x1.kn x1.kc, .int .i64 a1.step, .slice x1.ha x1.hn x1.hc, .int .i64 a1.status, .int .i64 a1.out] 31)) = w10' at *
      clear V_w9'
      refine (CI.out _ _ _ ox0.rd ox1.rd (LX.out.below V_w10')).mono ?_
      rintro e w11' ⟨g0, gn0, gc0, rfl, og0, u_w11'⟩
      replace B_p0 := B_p0.below u_w11'
      replace B_p1 := B_p1.below u_w11'
      replace B_x0 := B_x0.below u_w11'
      replace B_x1 := B_x1.below u_w11'
      replace or0 := or0.below u_w11'
      replace ox0 := ox0.below u_w11'
      replace ox1 := ox1.below u_w11'
      have V_w11' := V_w10'.trans (u_w11'.mono (V_w10').size)
      have S_w11' := u_w11'.size
      clear u_w11' V_w10'
      have Q_og0 := Lib.hid og0.feet
      go_wp2_with fail
      refine (eqIntS_b _ _ _ _ _ _ _ _ og0.ints or0.ints).mono ?_
      rintro e w12' ⟨rfl, u_w12'⟩
      replace B_p0 := B_p0.below u_w12'
      replace B_p1 := B_p1.below u_w12'
      replace B_x0 := B_x0.below u_w12'
      replace B_x1 := B_x1.below u_w12'
      replace or0 := or0.below u_w12'
      replace ox0 := ox0.below u_w12'
      replace ox1 := ox1.below u_w12'
      replace og0 := og0.below u_w12'
      have V_w12' := V_w11'.trans (u_w12'.mono (V_w11').size)
      have S_w12' := u_w12'.size
      clear u_w12' V_w11'
      have e_x0_0 : w12'.cell? ⟨w7'.heap.size, 0, none⟩ = some (.int .i64 a0.P) := B_x0.cell 0
      have e_x0_1 : w12'.cell? ⟨w7'.heap.size, 1, none⟩ = some (.int .i64 a0.party) := B_x0.cell 1
      have e_x0_2 : w12'.cell? ⟨w7'.heap.size, 2, none⟩ = some (.int .i64 a0.input) := B_x0.cell 2
      have e_x0_3 : w12'.cell? ⟨w7'.heap.size, 3, none⟩ = some (.int .i64 a0.mask) := B_x0.cell 3
      have e_x0_4 : w12'.cell? ⟨w7'.heap.size, 4, none⟩ = some (.int .i64 a0.delta) := B_x0.cell 4
      have e_x0_5 : w12'.cell? ⟨w7'.heap.size, 5, none⟩ = some (.slice x0.sa x0.sn x0.sc) := B_x0.cell 5
      have e_x0_6 : w12'.cell? ⟨w7'.heap.size, 6, none⟩ = some (.slice x0.ka x0.kn x0.kc) := B_x0.cell 6
      have e_x0_7 : w12'.cell? ⟨w7'.heap.size, 7, none⟩ = some (.int .i64 a0.step) := B_x0.cell 7
      have e_x0_8 : w12'.cell? ⟨w7'.heap.size, 8, none⟩ = some (.slice x0.ha x0.hn x0.hc) := B_x0.cell 8
      have e_x0_9 : w12'.cell? ⟨w7'.heap.size, 9, none⟩ = some (.int .i64 a0.status) := B_x0.cell 9
      have e_x0_10 : w12'.cell? ⟨w7'.heap.size, 10, none⟩ = some (.int .i64 a0.out) := B_x0.cell 10
      have e_p0_0 : w12'.cell? ⟨w.heap.size, 0, none⟩ = some (.int .i64 a0.P) := B_p0.cell 0
      have e_p0_1 : w12'.cell? ⟨w.heap.size, 1, none⟩ = some (.int .i64 a0.party) := B_p0.cell 1
      have e_p0_2 : w12'.cell? ⟨w.heap.size, 2, none⟩ = some (.int .i64 a0.input) := B_p0.cell 2
      have e_p0_3 : w12'.cell? ⟨w.heap.size, 3, none⟩ = some (.int .i64 a0.mask) := B_p0.cell 3
      have e_p0_4 : w12'.cell? ⟨w.heap.size, 4, none⟩ = some (.int .i64 a0.delta) := B_p0.cell 4
      have e_p0_5 : w12'.cell? ⟨w.heap.size, 5, none⟩ = some (.slice p0.sa p0.sn p0.sc) := B_p0.cell 5
      have e_p0_6 : w12'.cell? ⟨w.heap.size, 6, none⟩ = some (.slice p0.ka p0.kn p0.kc) := B_p0.cell 6
      have e_p0_7 : w12'.cell? ⟨w.heap.size, 7, none⟩ = some (.int .i64 a0.step) := B_p0.cell 7
      have e_p0_8 : w12'.cell? ⟨w.heap.size, 8, none⟩ = some (.slice p0.ha p0.hn p0.hc) := B_p0.cell 8
      have e_p0_9 : w12'.cell? ⟨w.heap.size, 9, none⟩ = some (.int .i64 a0.status) := B_p0.cell 9
      have e_p0_10 : w12'.cell? ⟨w.heap.size, 10, none⟩ = some (.int .i64 a0.out) := B_p0.cell 10
      go_wp2
      go_region_held3 (fun W => W.cell? ⟨w7'.heap.size, 0, none⟩ = some (.int .i64 a0.P) ∧ W.cell? ⟨w7'.heap.size, 1, none⟩ = some (.int .i64 a0.party) ∧ W.cell? ⟨w7'.heap.size, 2, none⟩ = some (.int .i64 a0.input) ∧ W.cell? ⟨w7'.heap.size, 3, none⟩ = some (.int .i64 a0.mask) ∧ W.cell? ⟨w7'.heap.size, 4, none⟩ = some (.int .i64 a0.delta) ∧ W.cell? ⟨w7'.heap.size, 5, none⟩ = some (.slice x0.sa x0.sn x0.sc) ∧ W.cell? ⟨w7'.heap.size, 6, none⟩ = some (.slice x0.ka x0.kn x0.kc) ∧ W.cell? ⟨w7'.heap.size, 7, none⟩ = some (.int .i64 a0.step) ∧ W.cell? ⟨w7'.heap.size, 8, none⟩ = some (.slice x0.ha x0.hn x0.hc) ∧ W.cell? ⟨w7'.heap.size, 9, none⟩ = some (.int .i64 a0.status) ∧ W.cell? ⟨w7'.heap.size, 10, none⟩ = some (.int .i64 a0.out) ∧ W.cell? ⟨w.heap.size, 0, none⟩ = some (.int .i64 a0.P) ∧ W.cell? ⟨w.heap.size, 1, none⟩ = some (.int .i64 a0.party) ∧ W.cell? ⟨w.heap.size, 2, none⟩ = some (.int .i64 a0.input) ∧ W.cell? ⟨w.heap.size, 3, none⟩ = some (.int .i64 a0.mask) ∧ W.cell? ⟨w.heap.size, 4, none⟩ = some (.int .i64 a0.delta) ∧ W.cell? ⟨w.heap.size, 5, none⟩ = some (.slice p0.sa p0.sn p0.sc) ∧ W.cell? ⟨w.heap.size, 6, none⟩ = some (.slice p0.ka p0.kn p0.kc) ∧ W.cell? ⟨w.heap.size, 7, none⟩ = some (.int .i64 a0.step) ∧ W.cell? ⟨w.heap.size, 8, none⟩ = some (.slice p0.ha p0.hn p0.hc) ∧ W.cell? ⟨w.heap.size, 9, none⟩ = some (.int .i64 a0.status) ∧ W.cell? ⟨w.heap.size, 10, none⟩ = some (.int .i64 a0.out))
        (first | go_keep | exact ⟨keepC tv (keepC tu e_x0_0), keepC tv (keepC tu e_x0_1), keepC tv (keepC tu e_x0_2), keepC tv (keepC tu e_x0_3), keepC tv (keepC tu e_x0_4), keepC tv (keepC tu e_x0_5), keepC tv (keepC tu e_x0_6), keepC tv (keepC tu e_x0_7), keepC tv (keepC tu e_x0_8), keepC tv (keepC tu e_x0_9), keepC tv (keepC tu e_x0_10), keepC tv (keepC tu e_p0_0), keepC tv (keepC tu e_p0_1), keepC tv (keepC tu e_p0_2), keepC tv (keepC tu e_p0_3), keepC tv (keepC tu e_p0_4), keepC tv (keepC tu e_p0_5), keepC tv (keepC tu e_p0_6), keepC tv (keepC tu e_p0_7), keepC tv (keepC tu e_p0_8), keepC tv (keepC tu e_p0_9), keepC tv (keepC tu e_p0_10)⟩ | exact ⟨keepC tu e_x0_0, keepC tu e_x0_1, keepC tu e_x0_2, keepC tu e_x0_3, keepC tu e_x0_4, keepC tu e_x0_5, keepC tu e_x0_6, keepC tu e_x0_7, keepC tu e_x0_8, keepC tu e_x0_9, keepC tu e_x0_10, keepC tu e_p0_0, keepC tu e_p0_1, keepC tu e_p0_2, keepC tu e_p0_3, keepC tu e_p0_4, keepC tu e_p0_5, keepC tu e_p0_6, keepC tu e_p0_7, keepC tu e_p0_8, keepC tu e_p0_9, keepC tu e_p0_10⟩)
        (first | (go_at_call 15; refine (toPlayer_o a0 p0 _ (z0.below V_w12'.drew) ht0).mono ?_; rintro e wt ⟨t0, F_t0, rfl, ot0, tu⟩) | (go_at_call 17; refine (eqPlayer_o a0 _ _ _ (ox0.drew.below tu).rd ot0.rd).mono ?_; rintro e wq ⟨rfl, tv⟩))
      have u_w13' : Below w12'.heap.size w12' wq := (Below.refl _ _).drew.trans (tu.trans (tv.mono tu.size))
      clear tu tv e_x0_0 e_x0_1 e_x0_2 e_x0_3 e_x0_4 e_x0_5 e_x0_6 e_x0_7 e_x0_8 e_x0_9 e_x0_10 e_p0_0 e_p0_1 e_p0_2 e_p0_3 e_p0_4 e_p0_5 e_p0_6 e_p0_7 e_p0_8 e_p0_9 e_p0_10 ot0
      replace B_p0 := B_p0.below u_w13'
      replace B_p1 := B_p1.below u_w13'
      replace B_x0 := B_x0.below u_w13'
      replace B_x1 := B_x1.below u_w13'
      replace or0 := or0.below u_w13'
      replace ox0 := ox0.below u_w13'
      replace ox1 := ox1.below u_w13'
      replace og0 := og0.below u_w13'
      have V_wq := V_w12'.trans (u_w13'.mono (V_w12').size)
      have S_wq := u_w13'.size
      clear u_w13' V_w12'
      generalize wq = w13' at *
      have V_w13' := V_wq
      clear V_wq
      have S_w13' := S_wq
      clear S_wq
      have e_x1_0 : w13'.cell? ⟨w9'.heap.size, 0, none⟩ = some (.int .i64 a1.P) := B_x1.cell 0
      have e_x1_1 : w13'.cell? ⟨w9'.heap.size, 1, none⟩ = some (.int .i64 a1.party) := B_x1.cell 1
      have e_x1_2 : w13'.cell? ⟨w9'.heap.size, 2, none⟩ = some (.int .i64 a1.input) := B_x1.cell 2
      have e_x1_3 : w13'.cell? ⟨w9'.heap.size, 3, none⟩ = some (.int .i64 a1.mask) := B_x1.cell 3
      have e_x1_4 : w13'.cell? ⟨w9'.heap.size, 4, none⟩ = some (.int .i64 a1.delta) := B_x1.cell 4
      have e_x1_5 : w13'.cell? ⟨w9'.heap.size, 5, none⟩ = some (.slice x1.sa x1.sn x1.sc) := B_x1.cell 5
      have e_x1_6 : w13'.cell? ⟨w9'.heap.size, 6, none⟩ = some (.slice x1.ka x1.kn x1.kc) := B_x1.cell 6
      have e_x1_7 : w13'.cell? ⟨w9'.heap.size, 7, none⟩ = some (.int .i64 a1.step) := B_x1.cell 7
      have e_x1_8 : w13'.cell? ⟨w9'.heap.size, 8, none⟩ = some (.slice x1.ha x1.hn x1.hc) := B_x1.cell 8
      have e_x1_9 : w13'.cell? ⟨w9'.heap.size, 9, none⟩ = some (.int .i64 a1.status) := B_x1.cell 9
      have e_x1_10 : w13'.cell? ⟨w9'.heap.size, 10, none⟩ = some (.int .i64 a1.out) := B_x1.cell 10
      have e_p1_0 : w13'.cell? ⟨w.heap.size + 1, 0, none⟩ = some (.int .i64 a1.P) := B_p1.cell 0
      have e_p1_1 : w13'.cell? ⟨w.heap.size + 1, 1, none⟩ = some (.int .i64 a1.party) := B_p1.cell 1
      have e_p1_2 : w13'.cell? ⟨w.heap.size + 1, 2, none⟩ = some (.int .i64 a1.input) := B_p1.cell 2
      have e_p1_3 : w13'.cell? ⟨w.heap.size + 1, 3, none⟩ = some (.int .i64 a1.mask) := B_p1.cell 3
      have e_p1_4 : w13'.cell? ⟨w.heap.size + 1, 4, none⟩ = some (.int .i64 a1.delta) := B_p1.cell 4
      have e_p1_5 : w13'.cell? ⟨w.heap.size + 1, 5, none⟩ = some (.slice p1.sa p1.sn p1.sc) := B_p1.cell 5
      have e_p1_6 : w13'.cell? ⟨w.heap.size + 1, 6, none⟩ = some (.slice p1.ka p1.kn p1.kc) := B_p1.cell 6
      have e_p1_7 : w13'.cell? ⟨w.heap.size + 1, 7, none⟩ = some (.int .i64 a1.step) := B_p1.cell 7
      have e_p1_8 : w13'.cell? ⟨w.heap.size + 1, 8, none⟩ = some (.slice p1.ha p1.hn p1.hc) := B_p1.cell 8
      have e_p1_9 : w13'.cell? ⟨w.heap.size + 1, 9, none⟩ = some (.int .i64 a1.status) := B_p1.cell 9
      have e_p1_10 : w13'.cell? ⟨w.heap.size + 1, 10, none⟩ = some (.int .i64 a1.out) := B_p1.cell 10
      go_wp2
      go_region_held3 (fun W => W.cell? ⟨w9'.heap.size, 0, none⟩ = some (.int .i64 a1.P) ∧ W.cell? ⟨w9'.heap.size, 1, none⟩ = some (.int .i64 a1.party) ∧ W.cell? ⟨w9'.heap.size, 2, none⟩ = some (.int .i64 a1.input) ∧ W.cell? ⟨w9'.heap.size, 3, none⟩ = some (.int .i64 a1.mask) ∧ W.cell? ⟨w9'.heap.size, 4, none⟩ = some (.int .i64 a1.delta) ∧ W.cell? ⟨w9'.heap.size, 5, none⟩ = some (.slice x1.sa x1.sn x1.sc) ∧ W.cell? ⟨w9'.heap.size, 6, none⟩ = some (.slice x1.ka x1.kn x1.kc) ∧ W.cell? ⟨w9'.heap.size, 7, none⟩ = some (.int .i64 a1.step) ∧ W.cell? ⟨w9'.heap.size, 8, none⟩ = some (.slice x1.ha x1.hn x1.hc) ∧ W.cell? ⟨w9'.heap.size, 9, none⟩ = some (.int .i64 a1.status) ∧ W.cell? ⟨w9'.heap.size, 10, none⟩ = some (.int .i64 a1.out) ∧ W.cell? ⟨w.heap.size + 1, 0, none⟩ = some (.int .i64 a1.P) ∧ W.cell? ⟨w.heap.size + 1, 1, none⟩ = some (.int .i64 a1.party) ∧ W.cell? ⟨w.heap.size + 1, 2, none⟩ = some (.int .i64 a1.input) ∧ W.cell? ⟨w.heap.size + 1, 3, none⟩ = some (.int .i64 a1.mask) ∧ W.cell? ⟨w.heap.size + 1, 4, none⟩ = some (.int .i64 a1.delta) ∧ W.cell? ⟨w.heap.size + 1, 5, none⟩ = some (.slice p1.sa p1.sn p1.sc) ∧ W.cell? ⟨w.heap.size + 1, 6, none⟩ = some (.slice p1.ka p1.kn p1.kc) ∧ W.cell? ⟨w.heap.size + 1, 7, none⟩ = some (.int .i64 a1.step) ∧ W.cell? ⟨w.heap.size + 1, 8, none⟩ = some (.slice p1.ha p1.hn p1.hc) ∧ W.cell? ⟨w.heap.size + 1, 9, none⟩ = some (.int .i64 a1.status) ∧ W.cell? ⟨w.heap.size + 1, 10, none⟩ = some (.int .i64 a1.out))
        (first | go_keep | exact ⟨keepC tv (keepC tu e_x1_0), keepC tv (keepC tu e_x1_1), keepC tv (keepC tu e_x1_2), keepC tv (keepC tu e_x1_3), keepC tv (keepC tu e_x1_4), keepC tv (keepC tu e_x1_5), keepC tv (keepC tu e_x1_6), keepC tv (keepC tu e_x1_7), keepC tv (keepC tu e_x1_8), keepC tv (keepC tu e_x1_9), keepC tv (keepC tu e_x1_10), keepC tv (keepC tu e_p1_0), keepC tv (keepC tu e_p1_1), keepC tv (keepC tu e_p1_2), keepC tv (keepC tu e_p1_3), keepC tv (keepC tu e_p1_4), keepC tv (keepC tu e_p1_5), keepC tv (keepC tu e_p1_6), keepC tv (keepC tu e_p1_7), keepC tv (keepC tu e_p1_8), keepC tv (keepC tu e_p1_9), keepC tv (keepC tu e_p1_10)⟩ | exact ⟨keepC tu e_x1_0, keepC tu e_x1_1, keepC tu e_x1_2, keepC tu e_x1_3, keepC tu e_x1_4, keepC tu e_x1_5, keepC tu e_x1_6, keepC tu e_x1_7, keepC tu e_x1_8, keepC tu e_x1_9, keepC tu e_x1_10, keepC tu e_p1_0, keepC tu e_p1_1, keepC tu e_p1_2, keepC tu e_p1_3, keepC tu e_p1_4, keepC tu e_p1_5, keepC tu e_p1_6, keepC tu e_p1_7, keepC tu e_p1_8, keepC tu e_p1_9, keepC tu e_p1_10⟩)
        (first | (go_at_call 15; refine (toPlayer_o a1 p1 _ (z1.below V_w13'.drew) ht1).mono ?_; rintro e wt ⟨t1, F_t1, rfl, ot1, tu⟩) | (go_at_call 17; refine (eqPlayer_o a1 _ _ _ (ox1.drew.below tu).rd ot1.rd).mono ?_; rintro e wq ⟨rfl, tv⟩))
      have u_w14' : Below w13'.heap.size w13' wq := (Below.refl _ _).drew.trans (tu.trans (tv.mono tu.size))
      clear tu tv e_x1_0 e_x1_1 e_x1_2 e_x1_3 e_x1_4 e_x1_5 e_x1_6 e_x1_7 e_x1_8 e_x1_9 e_x1_10 e_p1_0 e_p1_1 e_p1_2 e_p1_3 e_p1_4 e_p1_5 e_p1_6 e_p1_7 e_p1_8 e_p1_9 e_p1_10 ot1
      replace B_p0 := B_p0.below u_w14'
      replace B_p1 := B_p1.below u_w14'
      replace B_x0 := B_x0.below u_w14'
      replace B_x1 := B_x1.below u_w14'
      replace or0 := or0.below u_w14'
      replace ox0 := ox0.below u_w14'
      replace ox1 := ox1.below u_w14'
      replace og0 := og0.below u_w14'
      have V_wq := V_w13'.trans (u_w14'.mono (V_w13').size)
      have S_wq := u_w14'.size
      clear u_w14' V_w13'
      generalize wq = w14' at *
      have V_w14' := V_wq
      clear V_wq
      have S_w14' := S_wq
      clear S_wq
      have e_x0_0 : w14'.cell? ⟨w7'.heap.size, 0, none⟩ = some (.int .i64 a0.P) := B_x0.cell 0
      have e_x0_1 : w14'.cell? ⟨w7'.heap.size, 1, none⟩ = some (.int .i64 a0.party) := B_x0.cell 1
      have e_x0_2 : w14'.cell? ⟨w7'.heap.size, 2, none⟩ = some (.int .i64 a0.input) := B_x0.cell 2
      have e_x0_3 : w14'.cell? ⟨w7'.heap.size, 3, none⟩ = some (.int .i64 a0.mask) := B_x0.cell 3
      have e_x0_4 : w14'.cell? ⟨w7'.heap.size, 4, none⟩ = some (.int .i64 a0.delta) := B_x0.cell 4
      have e_x0_5 : w14'.cell? ⟨w7'.heap.size, 5, none⟩ = some (.slice x0.sa x0.sn x0.sc) := B_x0.cell 5
      have e_x0_6 : w14'.cell? ⟨w7'.heap.size, 6, none⟩ = some (.slice x0.ka x0.kn x0.kc) := B_x0.cell 6
      have e_x0_7 : w14'.cell? ⟨w7'.heap.size, 7, none⟩ = some (.int .i64 a0.step) := B_x0.cell 7
      have e_x0_8 : w14'.cell? ⟨w7'.heap.size, 8, none⟩ = some (.slice x0.ha x0.hn x0.hc) := B_x0.cell 8
      have e_x0_9 : w14'.cell? ⟨w7'.heap.size, 9, none⟩ = some (.int .i64 a0.status) := B_x0.cell 9
      have e_x0_10 : w14'.cell? ⟨w7'.heap.size, 10, none⟩ = some (.int .i64 a0.out) := B_x0.cell 10
      go_wp2_with fail
      clear e_x0_0 e_x0_1 e_x0_2 e_x0_3 e_x0_4 e_x0_5 e_x0_6 e_x0_7 e_x0_8 e_x0_9 e_x0_10
      refine (markPlayer_o _ _ _ _ _ _ _ _ _ ox0 (by omega) (by omega)).mono ?_
      rintro e w15' ⟨ms_ox0, mk_ox0, mh_ox0, rfl, ox0, U_ox0, T_ox0, G⟩
      replace U_ox0 := Lib.hid U_ox0
      have hm_ox0 : cntP ms_ox0 mk_ox0 mh_ox0 ≤ 10000000 := by omega
      clear T_ox0
      replace or0 := or0.only G (fun k hk hk' => by have := Q_or0.out k hk; have := Q_ox0.out k hk'; omega)
      replace ox1 := ox1.only G (fun k hk hk' => by have := Q_ox1.out k hk; have := Q_ox0.out k hk'; omega)
      replace og0 := og0.only G (fun k hk hk' => by have := Q_og0.out k hk; have := Q_ox0.out k hk'; omega)
      replace B_p0 := B_p0.only G (fun hm => by have := Q_ox0.out _ hm; omega)
      replace B_p1 := B_p1.only G (fun hm => by have := Q_ox0.out _ hm; omega)
      replace B_x0 := B_x0.only G (fun hm => by have := Q_ox0.out _ hm; omega)
      replace B_x1 := B_x1.only G (fun hm => by have := Q_ox0.out _ hm; omega)
      have V_w15' := V_w14'.trans (G.below V_w14'.size (fun k hm => by have := V_w14'.size; have := Q_ox0.out k hm; omega))
      have S_w15' := G.size
      clear G V_w14'
      have e_x1_0 : w15'.cell? ⟨w9'.heap.size, 0, none⟩ = some (.int .i64 a1.P) := B_x1.cell 0
      have e_x1_1 : w15'.cell? ⟨w9'.heap.size, 1, none⟩ = some (.int .i64 a1.party) := B_x1.cell 1
      have e_x1_2 : w15'.cell? ⟨w9'.heap.size, 2, none⟩ = some (.int .i64 a1.input) := B_x1.cell 2
      have e_x1_3 : w15'.cell? ⟨w9'.heap.size, 3, none⟩ = some (.int .i64 a1.mask) := B_x1.cell 3
      have e_x1_4 : w15'.cell? ⟨w9'.heap.size, 4, none⟩ = some (.int .i64 a1.delta) := B_x1.cell 4
      have e_x1_5 : w15'.cell? ⟨w9'.heap.size, 5, none⟩ = some (.slice x1.sa x1.sn x1.sc) := B_x1.cell 5
      have e_x1_6 : w15'.cell? ⟨w9'.heap.size, 6, none⟩ = some (.slice x1.ka x1.kn x1.kc) := B_x1.cell 6
      have e_x1_7 : w15'.cell? ⟨w9'.heap.size, 7, none⟩ = some (.int .i64 a1.step) := B_x1.cell 7
      have e_x1_8 : w15'.cell? ⟨w9'.heap.size, 8, none⟩ = some (.slice x1.ha x1.hn x1.hc) := B_x1.cell 8
      have e_x1_9 : w15'.cell? ⟨w9'.heap.size, 9, none⟩ = some (.int .i64 a1.status) := B_x1.cell 9
      have e_x1_10 : w15'.cell? ⟨w9'.heap.size, 10, none⟩ = some (.int .i64 a1.out) := B_x1.cell 10
      go_wp2_with fail
      clear e_x1_0 e_x1_1 e_x1_2 e_x1_3 e_x1_4 e_x1_5 e_x1_6 e_x1_7 e_x1_8 e_x1_9 e_x1_10
      refine (markPlayer_o _ _ _ _ _ _ _ _ _ ox1 (by omega) (by omega)).mono ?_
      rintro e w16' ⟨ms_ox1, mk_ox1, mh_ox1, rfl, ox1, U_ox1, T_ox1, G⟩
      replace U_ox1 := Lib.hid U_ox1
      have hm_ox1 : cntP ms_ox1 mk_ox1 mh_ox1 ≤ 10000000 := by omega
      clear T_ox1
      replace or0 := or0.only G (fun k hk hk' => by have := Q_or0.out k hk; have := Q_ox1.out k hk'; omega)
      replace ox0 := ox0.only G (fun k hk hk' => by have := Q_ox0.out k hk; have := Q_ox1.out k hk'; omega)
      replace og0 := og0.only G (fun k hk hk' => by have := Q_og0.out k hk; have := Q_ox1.out k hk'; omega)
      replace B_p0 := B_p0.only G (fun hm => by have := Q_ox1.out _ hm; omega)
      replace B_p1 := B_p1.only G (fun hm => by have := Q_ox1.out _ hm; omega)
      replace B_x0 := B_x0.only G (fun hm => by have := Q_ox1.out _ hm; omega)
      replace B_x1 := B_x1.only G (fun hm => by have := Q_ox1.out _ hm; omega)
      have V_w16' := V_w15'.trans (G.below V_w15'.size (fun k hm => by have := V_w15'.size; have := Q_ox1.out k hm; omega))
      have S_w16' := G.size
      clear G V_w15'
      go_wp2_with fail
      refine (eqIntS_b _ _ _ _ _ _ _ _ og0.ints or0.ints).mono ?_
      rintro e w17' ⟨rfl, u_w17'⟩
      replace B_p0 := B_p0.below u_w17'
      replace B_p1 := B_p1.below u_w17'
      replace B_x0 := B_x0.below u_w17'
      replace B_x1 := B_x1.below u_w17'
      replace or0 := or0.below u_w17'
      replace ox0 := ox0.below u_w17'
      replace ox1 := ox1.below u_w17'
      replace og0 := og0.below u_w17'
      have V_w17' := V_w16'.trans (u_w17'.mono (V_w16').size)
      have S_w17' := u_w17'.size
      clear u_w17' V_w16'
      clear ox0
      clear ox1
      clear B_x0
      clear B_x1
      have hn_og0 : gn0 ≤ 1000000 := by have := og0.len; omega
      go_wp2_with fail
      refine (markIntS_o _ _ _ _ _ _ _ og0 (by omega) (by omega)).mono ?_
      rintro e w18' ⟨rfl, ⟨L_og0, og0, U_og0⟩, G⟩
      replace U_og0 := Lib.hid U_og0
      replace or0 := or0.only G (fun k hk hk' => by have := Q_or0.out k hk; have := Q_og0.out k hk'; omega)
      replace B_p0 := B_p0.only G (fun hm => by have := Q_og0.out _ hm; omega)
      replace B_p1 := B_p1.only G (fun hm => by have := Q_og0.out _ hm; omega)
      have V_w18' := V_w17'.trans (G.below V_w17'.size (fun k hm => by have := V_w17'.size; have := Q_og0.out k hm; omega))
      have S_w18' := G.size
      clear G V_w17'
      go_wp2_with fail
      refine (heldIntS_b _ _ _ _ _ _ og0.ints U_og0.out (by omega) (by omega)).mono ?_
      rintro e w19' ⟨rfl, u_w19'⟩
      replace B_p0 := B_p0.below u_w19'
      replace B_p1 := B_p1.below u_w19'
      replace or0 := or0.below u_w19'
      replace og0 := og0.below u_w19'
      have V_w19' := V_w18'.trans (u_w19'.mono (V_w18').size)
      have S_w19' := u_w19'.size
      clear u_w19' V_w18'
      have e_p0_0 : w19'.cell? ⟨w.heap.size, 0, none⟩ = some (.int .i64 a0.P) := B_p0.cell 0
      have e_p0_1 : w19'.cell? ⟨w.heap.size, 1, none⟩ = some (.int .i64 a0.party) := B_p0.cell 1
      have e_p0_2 : w19'.cell? ⟨w.heap.size, 2, none⟩ = some (.int .i64 a0.input) := B_p0.cell 2
      have e_p0_3 : w19'.cell? ⟨w.heap.size, 3, none⟩ = some (.int .i64 a0.mask) := B_p0.cell 3
      have e_p0_4 : w19'.cell? ⟨w.heap.size, 4, none⟩ = some (.int .i64 a0.delta) := B_p0.cell 4
      have e_p0_5 : w19'.cell? ⟨w.heap.size, 5, none⟩ = some (.slice p0.sa p0.sn p0.sc) := B_p0.cell 5
      have e_p0_6 : w19'.cell? ⟨w.heap.size, 6, none⟩ = some (.slice p0.ka p0.kn p0.kc) := B_p0.cell 6
      have e_p0_7 : w19'.cell? ⟨w.heap.size, 7, none⟩ = some (.int .i64 a0.step) := B_p0.cell 7
      have e_p0_8 : w19'.cell? ⟨w.heap.size, 8, none⟩ = some (.slice p0.ha p0.hn p0.hc) := B_p0.cell 8
      have e_p0_9 : w19'.cell? ⟨w.heap.size, 9, none⟩ = some (.int .i64 a0.status) := B_p0.cell 9
      have e_p0_10 : w19'.cell? ⟨w.heap.size, 10, none⟩ = some (.int .i64 a0.out) := B_p0.cell 10
      have e_p1_0 : w19'.cell? ⟨w.heap.size + 1, 0, none⟩ = some (.int .i64 a1.P) := B_p1.cell 0
      have e_p1_1 : w19'.cell? ⟨w.heap.size + 1, 1, none⟩ = some (.int .i64 a1.party) := B_p1.cell 1
      have e_p1_2 : w19'.cell? ⟨w.heap.size + 1, 2, none⟩ = some (.int .i64 a1.input) := B_p1.cell 2
      have e_p1_3 : w19'.cell? ⟨w.heap.size + 1, 3, none⟩ = some (.int .i64 a1.mask) := B_p1.cell 3
      have e_p1_4 : w19'.cell? ⟨w.heap.size + 1, 4, none⟩ = some (.int .i64 a1.delta) := B_p1.cell 4
      have e_p1_5 : w19'.cell? ⟨w.heap.size + 1, 5, none⟩ = some (.slice p1.sa p1.sn p1.sc) := B_p1.cell 5
      have e_p1_6 : w19'.cell? ⟨w.heap.size + 1, 6, none⟩ = some (.slice p1.ka p1.kn p1.kc) := B_p1.cell 6
      have e_p1_7 : w19'.cell? ⟨w.heap.size + 1, 7, none⟩ = some (.int .i64 a1.step) := B_p1.cell 7
      have e_p1_8 : w19'.cell? ⟨w.heap.size + 1, 8, none⟩ = some (.slice p1.ha p1.hn p1.hc) := B_p1.cell 8
      have e_p1_9 : w19'.cell? ⟨w.heap.size + 1, 9, none⟩ = some (.int .i64 a1.status) := B_p1.cell 9
      have e_p1_10 : w19'.cell? ⟨w.heap.size + 1, 10, none⟩ = some (.int .i64 a1.out) := B_p1.cell 10
      go_wp2
      go_region_held3 (fun W => W.cell? ⟨w.heap.size, 0, none⟩ = some (.int .i64 a0.P) ∧ W.cell? ⟨w.heap.size, 1, none⟩ = some (.int .i64 a0.party) ∧ W.cell? ⟨w.heap.size, 2, none⟩ = some (.int .i64 a0.input) ∧ W.cell? ⟨w.heap.size, 3, none⟩ = some (.int .i64 a0.mask) ∧ W.cell? ⟨w.heap.size, 4, none⟩ = some (.int .i64 a0.delta) ∧ W.cell? ⟨w.heap.size, 5, none⟩ = some (.slice p0.sa p0.sn p0.sc) ∧ W.cell? ⟨w.heap.size, 6, none⟩ = some (.slice p0.ka p0.kn p0.kc) ∧ W.cell? ⟨w.heap.size, 7, none⟩ = some (.int .i64 a0.step) ∧ W.cell? ⟨w.heap.size, 8, none⟩ = some (.slice p0.ha p0.hn p0.hc) ∧ W.cell? ⟨w.heap.size, 9, none⟩ = some (.int .i64 a0.status) ∧ W.cell? ⟨w.heap.size, 10, none⟩ = some (.int .i64 a0.out) ∧ W.cell? ⟨w.heap.size + 1, 0, none⟩ = some (.int .i64 a1.P) ∧ W.cell? ⟨w.heap.size + 1, 1, none⟩ = some (.int .i64 a1.party) ∧ W.cell? ⟨w.heap.size + 1, 2, none⟩ = some (.int .i64 a1.input) ∧ W.cell? ⟨w.heap.size + 1, 3, none⟩ = some (.int .i64 a1.mask) ∧ W.cell? ⟨w.heap.size + 1, 4, none⟩ = some (.int .i64 a1.delta) ∧ W.cell? ⟨w.heap.size + 1, 5, none⟩ = some (.slice p1.sa p1.sn p1.sc) ∧ W.cell? ⟨w.heap.size + 1, 6, none⟩ = some (.slice p1.ka p1.kn p1.kc) ∧ W.cell? ⟨w.heap.size + 1, 7, none⟩ = some (.int .i64 a1.step) ∧ W.cell? ⟨w.heap.size + 1, 8, none⟩ = some (.slice p1.ha p1.hn p1.hc) ∧ W.cell? ⟨w.heap.size + 1, 9, none⟩ = some (.int .i64 a1.status) ∧ W.cell? ⟨w.heap.size + 1, 10, none⟩ = some (.int .i64 a1.out))
        (first | exact ⟨keepC u_w22' (keepC u_w21' (keepC u_w20' (e_p0_0))), keepC u_w22' (keepC u_w21' (keepC u_w20' (e_p0_1))), keepC u_w22' (keepC u_w21' (keepC u_w20' (e_p0_2))), keepC u_w22' (keepC u_w21' (keepC u_w20' (e_p0_3))), keepC u_w22' (keepC u_w21' (keepC u_w20' (e_p0_4))), keepC u_w22' (keepC u_w21' (keepC u_w20' (e_p0_5))), keepC u_w22' (keepC u_w21' (keepC u_w20' (e_p0_6))), keepC u_w22' (keepC u_w21' (keepC u_w20' (e_p0_7))), keepC u_w22' (keepC u_w21' (keepC u_w20' (e_p0_8))), keepC u_w22' (keepC u_w21' (keepC u_w20' (e_p0_9))), keepC u_w22' (keepC u_w21' (keepC u_w20' (e_p0_10))), keepC u_w22' (keepC u_w21' (keepC u_w20' (e_p1_0))), keepC u_w22' (keepC u_w21' (keepC u_w20' (e_p1_1))), keepC u_w22' (keepC u_w21' (keepC u_w20' (e_p1_2))), keepC u_w22' (keepC u_w21' (keepC u_w20' (e_p1_3))), keepC u_w22' (keepC u_w21' (keepC u_w20' (e_p1_4))), keepC u_w22' (keepC u_w21' (keepC u_w20' (e_p1_5))), keepC u_w22' (keepC u_w21' (keepC u_w20' (e_p1_6))), keepC u_w22' (keepC u_w21' (keepC u_w20' (e_p1_7))), keepC u_w22' (keepC u_w21' (keepC u_w20' (e_p1_8))), keepC u_w22' (keepC u_w21' (keepC u_w20' (e_p1_9))), keepC u_w22' (keepC u_w21' (keepC u_w20' (e_p1_10)))⟩ | exact ⟨keepC u_w21' (keepC u_w20' (e_p0_0)), keepC u_w21' (keepC u_w20' (e_p0_1)), keepC u_w21' (keepC u_w20' (e_p0_2)), keepC u_w21' (keepC u_w20' (e_p0_3)), keepC u_w21' (keepC u_w20' (e_p0_4)), keepC u_w21' (keepC u_w20' (e_p0_5)), keepC u_w21' (keepC u_w20' (e_p0_6)), keepC u_w21' (keepC u_w20' (e_p0_7)), keepC u_w21' (keepC u_w20' (e_p0_8)), keepC u_w21' (keepC u_w20' (e_p0_9)), keepC u_w21' (keepC u_w20' (e_p0_10)), keepC u_w21' (keepC u_w20' (e_p1_0)), keepC u_w21' (keepC u_w20' (e_p1_1)), keepC u_w21' (keepC u_w20' (e_p1_2)), keepC u_w21' (keepC u_w20' (e_p1_3)), keepC u_w21' (keepC u_w20' (e_p1_4)), keepC u_w21' (keepC u_w20' (e_p1_5)), keepC u_w21' (keepC u_w20' (e_p1_6)), keepC u_w21' (keepC u_w20' (e_p1_7)), keepC u_w21' (keepC u_w20' (e_p1_8)), keepC u_w21' (keepC u_w20' (e_p1_9)), keepC u_w21' (keepC u_w20' (e_p1_10))⟩ | exact ⟨keepC u_w20' (e_p0_0), keepC u_w20' (e_p0_1), keepC u_w20' (e_p0_2), keepC u_w20' (e_p0_3), keepC u_w20' (e_p0_4), keepC u_w20' (e_p0_5), keepC u_w20' (e_p0_6), keepC u_w20' (e_p0_7), keepC u_w20' (e_p0_8), keepC u_w20' (e_p0_9), keepC u_w20' (e_p0_10), keepC u_w20' (e_p1_0), keepC u_w20' (e_p1_1), keepC u_w20' (e_p1_2), keepC u_w20' (e_p1_3), keepC u_w20' (e_p1_4), keepC u_w20' (e_p1_5), keepC u_w20' (e_p1_6), keepC u_w20' (e_p1_7), keepC u_w20' (e_p1_8), keepC u_w20' (e_p1_9), keepC u_w20' (e_p1_10)⟩ | go_keep)
        (first | ((with_reducible refine (toPlayer_o a0 p0 _ (z0.below (V_w19'.drew)) ht0).mono ?_); rintro e w20' ⟨x0, F_x0, rfl, ox0, u_w20'⟩) | ((with_reducible refine (toPlayer_o a1 p1 _ (z1.below ((V_w19'.drew).trans (u_w20'.mono (V_w19'.drew).size))) ht1).mono ?_); rintro e w21' ⟨x1, F_x1, rfl, ox1, u_w21'⟩) | ((with_reducible refine (CI.out _ _ _ ((ox0.below u_w21').rd) (ox1.rd) (LX.out.below (((V_w19'.drew).trans (u_w20'.mono (V_w19'.drew).size)).trans (u_w21'.mono ((V_w19'.drew).trans (u_w20'.mono (V_w19'.drew).size)).size)))).mono ?_); rintro e w22' ⟨h0, hn0, hc0, rfl, oh0, u_w22'⟩))
      have CC0 := (u_w20').trans (u_w21'.mono (u_w20').size)
      have S_bw22 : w19'.heap.size ≤ w21'.heap.size := CC0.size
      have CC1 := (CC0).trans (u_w22'.mono (CC0).size)
      have u_all : Below w19'.heap.size w19' w22' := (Below.refl _ _).drew.trans CC1
      clear u_w20' u_w21' u_w22' CC0 CC1 e_p0_0 e_p0_1 e_p0_2 e_p0_3 e_p0_4 e_p0_5 e_p0_6 e_p0_7 e_p0_8 e_p0_9 e_p0_10 e_p1_0 e_p1_1 e_p1_2 e_p1_3 e_p1_4 e_p1_5 e_p1_6 e_p1_7 e_p1_8 e_p1_9 e_p1_10 ox0 ox1
      replace B_p0 := B_p0.below u_all
      replace B_p1 := B_p1.below u_all
      replace or0 := or0.below u_all
      replace og0 := og0.below u_all
      have V_w22' := V_w19'.trans (u_all.mono (V_w19').size)
      have S_w22' := u_all.size
      clear u_all V_w19'
      have Q_oh0 := Lib.hid oh0.feet
      go_wp2_with fail
      refine (eqIntS_b _ _ _ _ _ _ _ _ oh0.ints or0.ints).mono ?_
      rintro e w23' ⟨rfl, u_w23'⟩
      replace B_p0 := B_p0.below u_w23'
      replace B_p1 := B_p1.below u_w23'
      replace or0 := or0.below u_w23'
      replace og0 := og0.below u_w23'
      replace oh0 := oh0.below u_w23'
      have V_w23' := V_w22'.trans (u_w23'.mono (V_w22').size)
      have S_w23' := u_w23'.size
      clear u_w23' V_w22'
      go_wp2_with fail
      refine (heldIntS_b _ _ _ _ _ _ og0.ints U_og0.out (by omega) (by omega)).mono ?_
      rintro e w24' ⟨rfl, u_w24'⟩
      replace B_p0 := B_p0.below u_w24'
      replace B_p1 := B_p1.below u_w24'
      replace or0 := or0.below u_w24'
      replace og0 := og0.below u_w24'
      replace oh0 := oh0.below u_w24'
      have V_w24' := V_w23'.trans (u_w24'.mono (V_w23').size)
      have S_w24' := u_w24'.size
      clear u_w24' V_w23'
      go_wp2
      go_ret
      exact ⟨rfl, V_w24'⟩
    · skip
      go_enter Tryd.func5, Tryd.ntmps5
      go_wp2_with fail
      have V_w25' : Below w.heap.size w ((w.alloc (.cells #[.int .i64 a0.P, .int .i64 a0.party, .int .i64 a0.input, .int .i64 a0.mask, .int .i64 a0.delta, .slice p0.sa p0.sn p0.sc, .slice p0.ka p0.kn p0.kc, .int .i64 a0.step, .slice p0.ha p0.hn p0.hc, .int .i64 a0.status, .int .i64 a0.out] 26)).alloc (.cells #[.int .i64 a1.P, .int .i64 a1.party, .int .i64 a1.input, .int .i64 a1.mask, .int .i64 a1.delta, .slice p1.sa p1.sn p1.sc, .slice p1.ka p1.kn p1.kc, .int .i64 a1.step, .slice p1.ha p1.hn p1.hc, .int .i64 a1.status, .int .i64 a1.out] 26)) := (((((Below.refl w.heap.size w)).alloc (by have := ((Below.refl w.heap.size w)).size; first | exact this | (simp; omega) | simp) _)).alloc (by have := ((Below.refl w.heap.size w)).size; first | exact this | (simp; omega) | simp) _)
      have B_p0 : Blk ((w.alloc (.cells #[.int .i64 a0.P, .int .i64 a0.party, .int .i64 a0.input, .int .i64 a0.mask, .int .i64 a0.delta, .slice p0.sa p0.sn p0.sc, .slice p0.ka p0.kn p0.kc, .int .i64 a0.step, .slice p0.ha p0.hn p0.hc, .int .i64 a0.status, .int .i64 a0.out] 26)).alloc (.cells #[.int .i64 a1.P, .int .i64 a1.party, .int .i64 a1.input, .int .i64 a1.mask, .int .i64 a1.delta, .slice p1.sa p1.sn p1.sc, .slice p1.ka p1.kn p1.kc, .int .i64 a1.step, .slice p1.ha p1.hn p1.hc, .int .i64 a1.status, .int .i64 a1.out] 26)) (w.heap.size) 26 #[.int .i64 a0.P, .int .i64 a0.party, .int .i64 a0.input, .int .i64 a0.mask, .int .i64 a0.delta, .slice p0.sa p0.sn p0.sc, .slice p0.ka p0.kn p0.kc, .int .i64 a0.step, .slice p0.ha p0.hn p0.hc, .int .i64 a0.status, .int .i64 a0.out] := by simpa using ((Blk.new w 26 #[.int .i64 a0.P, .int .i64 a0.party, .int .i64 a0.input, .int .i64 a0.mask, .int .i64 a0.delta, .slice p0.sa p0.sn p0.sc, .slice p0.ka p0.kn p0.kc, .int .i64 a0.step, .slice p0.ha p0.hn p0.hc, .int .i64 a0.status, .int .i64 a0.out]).alloc _ : Blk ((w.alloc (.cells #[.int .i64 a0.P, .int .i64 a0.party, .int .i64 a0.input, .int .i64 a0.mask, .int .i64 a0.delta, .slice p0.sa p0.sn p0.sc, .slice p0.ka p0.kn p0.kc, .int .i64 a0.step, .slice p0.ha p0.hn p0.hc, .int .i64 a0.status, .int .i64 a0.out] 26)).alloc (.cells #[.int .i64 a1.P, .int .i64 a1.party, .int .i64 a1.input, .int .i64 a1.mask, .int .i64 a1.delta, .slice p1.sa p1.sn p1.sc, .slice p1.ka p1.kn p1.kc, .int .i64 a1.step, .slice p1.ha p1.hn p1.hc, .int .i64 a1.status, .int .i64 a1.out] 26)) _ _ _)
      have B_p1 : Blk ((w.alloc (.cells #[.int .i64 a0.P, .int .i64 a0.party, .int .i64 a0.input, .int .i64 a0.mask, .int .i64 a0.delta, .slice p0.sa p0.sn p0.sc, .slice p0.ka p0.kn p0.kc, .int .i64 a0.step, .slice p0.ha p0.hn p0.hc, .int .i64 a0.status, .int .i64 a0.out] 26)).alloc (.cells #[.int .i64 a1.P, .int .i64 a1.party, .int .i64 a1.input, .int .i64 a1.mask, .int .i64 a1.delta, .slice p1.sa p1.sn p1.sc, .slice p1.ka p1.kn p1.kc, .int .i64 a1.step, .slice p1.ha p1.hn p1.hc, .int .i64 a1.status, .int .i64 a1.out] 26)) (w.heap.size + 1) 26 #[.int .i64 a1.P, .int .i64 a1.party, .int .i64 a1.input, .int .i64 a1.mask, .int .i64 a1.delta, .slice p1.sa p1.sn p1.sc, .slice p1.ka p1.kn p1.kc, .int .i64 a1.step, .slice p1.ha p1.hn p1.hc, .int .i64 a1.status, .int .i64 a1.out] := by simpa using ((Blk.new (w.alloc (.cells #[.int .i64 a0.P, .int .i64 a0.party, .int .i64 a0.input, .int .i64 a0.mask, .int .i64 a0.delta, .slice p0.sa p0.sn p0.sc, .slice p0.ka p0.kn p0.kc, .int .i64 a0.step, .slice p0.ha p0.hn p0.hc, .int .i64 a0.status, .int .i64 a0.out] 26)) 26 #[.int .i64 a1.P, .int .i64 a1.party, .int .i64 a1.input, .int .i64 a1.mask, .int .i64 a1.delta, .slice p1.sa p1.sn p1.sc, .slice p1.ka p1.kn p1.kc, .int .i64 a1.step, .slice p1.ha p1.hn p1.hc, .int .i64 a1.status, .int .i64 a1.out]) : Blk ((w.alloc (.cells #[.int .i64 a0.P, .int .i64 a0.party, .int .i64 a0.input, .int .i64 a0.mask, .int .i64 a0.delta, .slice p0.sa p0.sn p0.sc, .slice p0.ka p0.kn p0.kc, .int .i64 a0.step, .slice p0.ha p0.hn p0.hc, .int .i64 a0.status, .int .i64 a0.out] 26)).alloc (.cells #[.int .i64 a1.P, .int .i64 a1.party, .int .i64 a1.input, .int .i64 a1.mask, .int .i64 a1.delta, .slice p1.sa p1.sn p1.sc, .slice p1.ka p1.kn p1.kc, .int .i64 a1.step, .slice p1.ha p1.hn p1.hc, .int .i64 a1.status, .int .i64 a1.out] 26)) _ _ _)
      have S_w25' : w.heap.size + 2 ≤ ((w.alloc (.cells #[.int .i64 a0.P, .int .i64 a0.party, .int .i64 a0.input, .int .i64 a0.mask, .int .i64 a0.delta, .slice p0.sa p0.sn p0.sc, .slice p0.ka p0.kn p0.kc, .int .i64 a0.step, .slice p0.ha p0.hn p0.hc, .int .i64 a0.status, .int .i64 a0.out] 26)).alloc (.cells #[.int .i64 a1.P, .int .i64 a1.party, .int .i64 a1.input, .int .i64 a1.mask, .int .i64 a1.delta, .slice p1.sa p1.sn p1.sc, .slice p1.ka p1.kn p1.kc, .int .i64 a1.step, .slice p1.ha p1.hn p1.hc, .int .i64 a1.status, .int .i64 a1.out] 26)).heap.size := by simp
      generalize ((w.alloc (.cells #[.int .i64 a0.P, .int .i64 a0.party, .int .i64 a0.input, .int .i64 a0.mask, .int .i64 a0.delta, .slice p0.sa p0.sn p0.sc, .slice p0.ka p0.kn p0.kc, .int .i64 a0.step, .slice p0.ha p0.hn p0.hc, .int .i64 a0.status, .int .i64 a0.out] 26)).alloc (.cells #[.int .i64 a1.P, .int .i64 a1.party, .int .i64 a1.input, .int .i64 a1.mask, .int .i64 a1.delta, .slice p1.sa p1.sn p1.sc, .slice p1.ka p1.kn p1.kc, .int .i64 a1.step, .slice p1.ha p1.hn p1.hc, .int .i64 a1.status, .int .i64 a1.out] 26)) = w25' at *
      refine (szPlayer_o_yes a0 p0 (1048576) _ (z0.below V_w25') (by omega) (by omega)).mono ?_
      rintro e w26' ⟨rfl, u_w26'⟩
      replace B_p0 := B_p0.below u_w26'
      replace B_p1 := B_p1.below u_w26'
      have V_w26' := V_w25'.trans (u_w26'.mono (V_w25').size)
      have S_w26' := u_w26'.size
      clear u_w26' V_w25'
      have e_p1_0 : w26'.cell? ⟨w.heap.size + 1, 0, none⟩ = some (.int .i64 a1.P) := B_p1.cell 0
      have e_p1_1 : w26'.cell? ⟨w.heap.size + 1, 1, none⟩ = some (.int .i64 a1.party) := B_p1.cell 1
      have e_p1_2 : w26'.cell? ⟨w.heap.size + 1, 2, none⟩ = some (.int .i64 a1.input) := B_p1.cell 2
      have e_p1_3 : w26'.cell? ⟨w.heap.size + 1, 3, none⟩ = some (.int .i64 a1.mask) := B_p1.cell 3
      have e_p1_4 : w26'.cell? ⟨w.heap.size + 1, 4, none⟩ = some (.int .i64 a1.delta) := B_p1.cell 4
      have e_p1_5 : w26'.cell? ⟨w.heap.size + 1, 5, none⟩ = some (.slice p1.sa p1.sn p1.sc) := B_p1.cell 5
      have e_p1_6 : w26'.cell? ⟨w.heap.size + 1, 6, none⟩ = some (.slice p1.ka p1.kn p1.kc) := B_p1.cell 6
      have e_p1_7 : w26'.cell? ⟨w.heap.size + 1, 7, none⟩ = some (.int .i64 a1.step) := B_p1.cell 7
      have e_p1_8 : w26'.cell? ⟨w.heap.size + 1, 8, none⟩ = some (.slice p1.ha p1.hn p1.hc) := B_p1.cell 8
      have e_p1_9 : w26'.cell? ⟨w.heap.size + 1, 9, none⟩ = some (.int .i64 a1.status) := B_p1.cell 9
      have e_p1_10 : w26'.cell? ⟨w.heap.size + 1, 10, none⟩ = some (.int .i64 a1.out) := B_p1.cell 10
      go_wp2_with fail
      clear e_p1_0 e_p1_1 e_p1_2 e_p1_3 e_p1_4 e_p1_5 e_p1_6 e_p1_7 e_p1_8 e_p1_9 e_p1_10
      refine (szPlayer_o_no a1 p1 (1048576 - (szP p0 a0.shares a0.keys a0.heard : Int)) _ (z1.below V_w26') (by omega) (by omega) (by omega)).mono ?_
      rintro e w27' ⟨rfl, u_w27'⟩
      replace B_p0 := B_p0.below u_w27'
      replace B_p1 := B_p1.below u_w27'
      have V_w27' := V_w26'.trans (u_w27'.mono (V_w26').size)
      have S_w27' := u_w27'.size
      clear u_w27' V_w26'
      go_wp2
      go_ret
      exact ⟨rfl, V_w27'⟩
  · skip
    go_enter Tryd.func5, Tryd.ntmps5
    go_wp2_with fail
    have V_w28' : Below w.heap.size w ((w.alloc (.cells #[.int .i64 a0.P, .int .i64 a0.party, .int .i64 a0.input, .int .i64 a0.mask, .int .i64 a0.delta, .slice p0.sa p0.sn p0.sc, .slice p0.ka p0.kn p0.kc, .int .i64 a0.step, .slice p0.ha p0.hn p0.hc, .int .i64 a0.status, .int .i64 a0.out] 26)).alloc (.cells #[.int .i64 a1.P, .int .i64 a1.party, .int .i64 a1.input, .int .i64 a1.mask, .int .i64 a1.delta, .slice p1.sa p1.sn p1.sc, .slice p1.ka p1.kn p1.kc, .int .i64 a1.step, .slice p1.ha p1.hn p1.hc, .int .i64 a1.status, .int .i64 a1.out] 26)) := (((((Below.refl w.heap.size w)).alloc (by have := ((Below.refl w.heap.size w)).size; first | exact this | (simp; omega) | simp) _)).alloc (by have := ((Below.refl w.heap.size w)).size; first | exact this | (simp; omega) | simp) _)
    have B_p0 : Blk ((w.alloc (.cells #[.int .i64 a0.P, .int .i64 a0.party, .int .i64 a0.input, .int .i64 a0.mask, .int .i64 a0.delta, .slice p0.sa p0.sn p0.sc, .slice p0.ka p0.kn p0.kc, .int .i64 a0.step, .slice p0.ha p0.hn p0.hc, .int .i64 a0.status, .int .i64 a0.out] 26)).alloc (.cells #[.int .i64 a1.P, .int .i64 a1.party, .int .i64 a1.input, .int .i64 a1.mask, .int .i64 a1.delta, .slice p1.sa p1.sn p1.sc, .slice p1.ka p1.kn p1.kc, .int .i64 a1.step, .slice p1.ha p1.hn p1.hc, .int .i64 a1.status, .int .i64 a1.out] 26)) (w.heap.size) 26 #[.int .i64 a0.P, .int .i64 a0.party, .int .i64 a0.input, .int .i64 a0.mask, .int .i64 a0.delta, .slice p0.sa p0.sn p0.sc, .slice p0.ka p0.kn p0.kc, .int .i64 a0.step, .slice p0.ha p0.hn p0.hc, .int .i64 a0.status, .int .i64 a0.out] := by simpa using ((Blk.new w 26 #[.int .i64 a0.P, .int .i64 a0.party, .int .i64 a0.input, .int .i64 a0.mask, .int .i64 a0.delta, .slice p0.sa p0.sn p0.sc, .slice p0.ka p0.kn p0.kc, .int .i64 a0.step, .slice p0.ha p0.hn p0.hc, .int .i64 a0.status, .int .i64 a0.out]).alloc _ : Blk ((w.alloc (.cells #[.int .i64 a0.P, .int .i64 a0.party, .int .i64 a0.input, .int .i64 a0.mask, .int .i64 a0.delta, .slice p0.sa p0.sn p0.sc, .slice p0.ka p0.kn p0.kc, .int .i64 a0.step, .slice p0.ha p0.hn p0.hc, .int .i64 a0.status, .int .i64 a0.out] 26)).alloc (.cells #[.int .i64 a1.P, .int .i64 a1.party, .int .i64 a1.input, .int .i64 a1.mask, .int .i64 a1.delta, .slice p1.sa p1.sn p1.sc, .slice p1.ka p1.kn p1.kc, .int .i64 a1.step, .slice p1.ha p1.hn p1.hc, .int .i64 a1.status, .int .i64 a1.out] 26)) _ _ _)
    have B_p1 : Blk ((w.alloc (.cells #[.int .i64 a0.P, .int .i64 a0.party, .int .i64 a0.input, .int .i64 a0.mask, .int .i64 a0.delta, .slice p0.sa p0.sn p0.sc, .slice p0.ka p0.kn p0.kc, .int .i64 a0.step, .slice p0.ha p0.hn p0.hc, .int .i64 a0.status, .int .i64 a0.out] 26)).alloc (.cells #[.int .i64 a1.P, .int .i64 a1.party, .int .i64 a1.input, .int .i64 a1.mask, .int .i64 a1.delta, .slice p1.sa p1.sn p1.sc, .slice p1.ka p1.kn p1.kc, .int .i64 a1.step, .slice p1.ha p1.hn p1.hc, .int .i64 a1.status, .int .i64 a1.out] 26)) (w.heap.size + 1) 26 #[.int .i64 a1.P, .int .i64 a1.party, .int .i64 a1.input, .int .i64 a1.mask, .int .i64 a1.delta, .slice p1.sa p1.sn p1.sc, .slice p1.ka p1.kn p1.kc, .int .i64 a1.step, .slice p1.ha p1.hn p1.hc, .int .i64 a1.status, .int .i64 a1.out] := by simpa using ((Blk.new (w.alloc (.cells #[.int .i64 a0.P, .int .i64 a0.party, .int .i64 a0.input, .int .i64 a0.mask, .int .i64 a0.delta, .slice p0.sa p0.sn p0.sc, .slice p0.ka p0.kn p0.kc, .int .i64 a0.step, .slice p0.ha p0.hn p0.hc, .int .i64 a0.status, .int .i64 a0.out] 26)) 26 #[.int .i64 a1.P, .int .i64 a1.party, .int .i64 a1.input, .int .i64 a1.mask, .int .i64 a1.delta, .slice p1.sa p1.sn p1.sc, .slice p1.ka p1.kn p1.kc, .int .i64 a1.step, .slice p1.ha p1.hn p1.hc, .int .i64 a1.status, .int .i64 a1.out]) : Blk ((w.alloc (.cells #[.int .i64 a0.P, .int .i64 a0.party, .int .i64 a0.input, .int .i64 a0.mask, .int .i64 a0.delta, .slice p0.sa p0.sn p0.sc, .slice p0.ka p0.kn p0.kc, .int .i64 a0.step, .slice p0.ha p0.hn p0.hc, .int .i64 a0.status, .int .i64 a0.out] 26)).alloc (.cells #[.int .i64 a1.P, .int .i64 a1.party, .int .i64 a1.input, .int .i64 a1.mask, .int .i64 a1.delta, .slice p1.sa p1.sn p1.sc, .slice p1.ka p1.kn p1.kc, .int .i64 a1.step, .slice p1.ha p1.hn p1.hc, .int .i64 a1.status, .int .i64 a1.out] 26)) _ _ _)
    have S_w28' : w.heap.size + 2 ≤ ((w.alloc (.cells #[.int .i64 a0.P, .int .i64 a0.party, .int .i64 a0.input, .int .i64 a0.mask, .int .i64 a0.delta, .slice p0.sa p0.sn p0.sc, .slice p0.ka p0.kn p0.kc, .int .i64 a0.step, .slice p0.ha p0.hn p0.hc, .int .i64 a0.status, .int .i64 a0.out] 26)).alloc (.cells #[.int .i64 a1.P, .int .i64 a1.party, .int .i64 a1.input, .int .i64 a1.mask, .int .i64 a1.delta, .slice p1.sa p1.sn p1.sc, .slice p1.ka p1.kn p1.kc, .int .i64 a1.step, .slice p1.ha p1.hn p1.hc, .int .i64 a1.status, .int .i64 a1.out] 26)).heap.size := by simp
    generalize ((w.alloc (.cells #[.int .i64 a0.P, .int .i64 a0.party, .int .i64 a0.input, .int .i64 a0.mask, .int .i64 a0.delta, .slice p0.sa p0.sn p0.sc, .slice p0.ka p0.kn p0.kc, .int .i64 a0.step, .slice p0.ha p0.hn p0.hc, .int .i64 a0.status, .int .i64 a0.out] 26)).alloc (.cells #[.int .i64 a1.P, .int .i64 a1.party, .int .i64 a1.input, .int .i64 a1.mask, .int .i64 a1.delta, .slice p1.sa p1.sn p1.sc, .slice p1.ka p1.kn p1.kc, .int .i64 a1.step, .slice p1.ha p1.hn p1.hc, .int .i64 a1.status, .int .i64 a1.out] 26)) = w28' at *
    refine (szPlayer_o_no a0 p0 (1048576) _ (z0.below V_w28') (by omega) (by omega) (by omega)).mono ?_
    rintro e w29' ⟨rfl, u_w29'⟩
    replace B_p0 := B_p0.below u_w29'
    replace B_p1 := B_p1.below u_w29'
    have V_w29' := V_w28'.trans (u_w29'.mono (V_w28').size)
    have S_w29' := u_w29'.size
    clear u_w29' V_w28'
    go_wp2
    go_ret
    exact ⟨rfl, V_w29'⟩
end Go.Proofs.YtlmdckcohoddnaaDoor
