/- Further lemmas and walks that the claim's proof rests on, part 6. -/
import Derived.Deep.Slices
import Derived.Deep.Fields
import Derived.ChangeSame
import Derived.ProofKit
import Derived.Test.YtlmdckcohoddnaaDoorK1
import Derived.Test.YtlmdckcohoddnaaDoorK2
import Derived.Test.YtlmdckcohoddnaaDoorK3
import Derived.Test.YtlmdckcohoddnaaDoorK4
import Derived.Test.YtlmdckcohoddnaaDoorK5
import Derived.Test.YtlmdckcohoddnaaDoorK6
import Derived.Test.YtlmdckcohoddnaaDoorK7
import Derived.Test.YtlmdckcohoddnaaDoorK8
import Derived.Test.YtlmdckcohoddnaaDoorK9
import Derived.Test.YtlmdckcohoddnaaDoorK10
import Derived.Test.YtlmdckcohoddnaaDoorK11
import Derived.Test.YtlmdckcohoddnaaDoorK12
import Derived.Test.YtlmdckcohoddnaaDoorK13
import Derived.Test.YtlmdckcohoddnaaDoorQ1
import Derived.Test.YtlmdckcohoddnaaDoorQ2
import Derived.Test.YtlmdckcohoddnaaDoorQ3
import Derived.Test.YtlmdckcohoddnaaDoorQ4
import Derived.Test.YtlmdckcohoddnaaDoorQ5
namespace Go.Proofs.YtlmdckcohoddnaaDoor
open Go.RowKit
set_option maxHeartbeats 16000000 in
set_option maxRecDepth 100000 in
theorem FnExactReplayFor_walk (a0 : Pl) (p0 : PlX) (p1 : Option Addr) (pn1 pc1 : Nat) (l1 : List MsD) (w : World) (z0 : PlR w p0 a0.shares a0.keys a0.heard) (z1 : MsR w p1 pn1 pc1 l1) (hT : Tbl w) :
    Calls Tryd.prog 10 #[.agg #[.int .i64 a0.P, .int .i64 a0.party, .int .i64 a0.input, .int .i64 a0.mask, .int .i64 a0.delta, .slice p0.sa p0.sn p0.sc, .slice p0.ka p0.kn p0.kc, .int .i64 a0.step, .slice p0.ha p0.hn p0.hc, .int .i64 a0.status, .int .i64 a0.out], .slice p1 pn1 pc1] w fun e w' => e = .returned (.bool true) ∧ Below w.heap.size w w' := by
  have LX := Lib.hid hT
  clear hT
  have CS := fun (W : World) (x0 : PlX) (x1 : Option Addr) (xn1 xc1 : Nat) => spec_ReplayFor_any a0 x0 x1 xn1 xc1 l1 W
  have CI := fun (W : World) (x0 : PlX) (x1 : Option Addr) (xn1 xc1 : Nat) => ReplayFor_any a0 x0 x1 xn1 xc1 l1 W
  have hl0 := rfP_cnt a0 l1.length l1
  generalize rfP a0 l1.length l1 = d0_0 at CS CI hl0
  generalize rpB a0 l1.length = d1_0 at CS CI hl0
  replace CS := Lib.hid CS
  replace CI := Lib.hid CI
  by_cases ht0 : (szP p0 a0.shares a0.keys a0.heard : Int) ≤ 1048576
  · skip
    by_cases ht1 : (szM pn1 l1 : Int) ≤ 1048576 - (szP p0 a0.shares a0.keys a0.heard : Int)
    · skip
      go_enter Tryd.func10, Tryd.ntmps10
      go_wp2_with fail
      have V_w1' : Below w.heap.size w (w.alloc (.cells #[.int .i64 a0.P, .int .i64 a0.party, .int .i64 a0.input, .int .i64 a0.mask, .int .i64 a0.delta, .slice p0.sa p0.sn p0.sc, .slice p0.ka p0.kn p0.kc, .int .i64 a0.step, .slice p0.ha p0.hn p0.hc, .int .i64 a0.status, .int .i64 a0.out] 26)) := (((Below.refl w.heap.size w)).alloc (by have := ((Below.refl w.heap.size w)).size; first | exact this | (simp; omega) | simp) _)
      have B_p0 : Blk (w.alloc (.cells #[.int .i64 a0.P, .int .i64 a0.party, .int .i64 a0.input, .int .i64 a0.mask, .int .i64 a0.delta, .slice p0.sa p0.sn p0.sc, .slice p0.ka p0.kn p0.kc, .int .i64 a0.step, .slice p0.ha p0.hn p0.hc, .int .i64 a0.status, .int .i64 a0.out] 26)) (w.heap.size) 26 #[.int .i64 a0.P, .int .i64 a0.party, .int .i64 a0.input, .int .i64 a0.mask, .int .i64 a0.delta, .slice p0.sa p0.sn p0.sc, .slice p0.ka p0.kn p0.kc, .int .i64 a0.step, .slice p0.ha p0.hn p0.hc, .int .i64 a0.status, .int .i64 a0.out] := Blk.new w 26 #[.int .i64 a0.P, .int .i64 a0.party, .int .i64 a0.input, .int .i64 a0.mask, .int .i64 a0.delta, .slice p0.sa p0.sn p0.sc, .slice p0.ka p0.kn p0.kc, .int .i64 a0.step, .slice p0.ha p0.hn p0.hc, .int .i64 a0.status, .int .i64 a0.out]
      have S_w1' : w.heap.size + 1 ≤ (w.alloc (.cells #[.int .i64 a0.P, .int .i64 a0.party, .int .i64 a0.input, .int .i64 a0.mask, .int .i64 a0.delta, .slice p0.sa p0.sn p0.sc, .slice p0.ka p0.kn p0.kc, .int .i64 a0.step, .slice p0.ha p0.hn p0.hc, .int .i64 a0.status, .int .i64 a0.out] 26)).heap.size := by simp
      generalize (w.alloc (.cells #[.int .i64 a0.P, .int .i64 a0.party, .int .i64 a0.input, .int .i64 a0.mask, .int .i64 a0.delta, .slice p0.sa p0.sn p0.sc, .slice p0.ka p0.kn p0.kc, .int .i64 a0.step, .slice p0.ha p0.hn p0.hc, .int .i64 a0.status, .int .i64 a0.out] 26)) = w1' at *
      refine (szPlayer_o_yes a0 p0 (1048576) _ (z0.below V_w1') (by omega) (by omega)).mono ?_
      rintro e w2' ⟨rfl, u_w2'⟩
      replace B_p0 := B_p0.below u_w2'
      have V_w2' := V_w1'.trans (u_w2'.mono (V_w1').size)
      have S_w2' := u_w2'.size
      clear u_w2' V_w1'
      go_wp2_with fail
      refine (szMessageS_o_yes _ _ _ l1 (1048576 - (szP p0 a0.shares a0.keys a0.heard : Int)) _ (z1.below V_w2') (by omega) (by omega)).mono ?_
      rintro e w3' ⟨rfl, u_w3'⟩
      replace B_p0 := B_p0.below u_w3'
      have V_w3' := V_w2'.trans (u_w3'.mono (V_w2').size)
      have S_w3' := u_w3'.size
      clear u_w3' V_w2'
      have hlf : (0 : Int) ≤ 1048576 - (szP p0 a0.shares a0.keys a0.heard : Int) - (szM pn1 l1 : Int) := by omega
      have hcn0 := z0.cnt (by omega)
      replace ht0 : (szP p0 a0.shares a0.keys a0.heard : Int) ≤ 1048576 := by omega
      have hcn1 := z1.cnt (by omega)
      replace ht1 : (szM pn1 l1 : Int) ≤ 1048576 := by omega
      have e_p0_0 : w3'.cell? ⟨w.heap.size, 0, none⟩ = some (.int .i64 a0.P) := B_p0.cell 0
      have e_p0_1 : w3'.cell? ⟨w.heap.size, 1, none⟩ = some (.int .i64 a0.party) := B_p0.cell 1
      have e_p0_2 : w3'.cell? ⟨w.heap.size, 2, none⟩ = some (.int .i64 a0.input) := B_p0.cell 2
      have e_p0_3 : w3'.cell? ⟨w.heap.size, 3, none⟩ = some (.int .i64 a0.mask) := B_p0.cell 3
      have e_p0_4 : w3'.cell? ⟨w.heap.size, 4, none⟩ = some (.int .i64 a0.delta) := B_p0.cell 4
      have e_p0_5 : w3'.cell? ⟨w.heap.size, 5, none⟩ = some (.slice p0.sa p0.sn p0.sc) := B_p0.cell 5
      have e_p0_6 : w3'.cell? ⟨w.heap.size, 6, none⟩ = some (.slice p0.ka p0.kn p0.kc) := B_p0.cell 6
      have e_p0_7 : w3'.cell? ⟨w.heap.size, 7, none⟩ = some (.int .i64 a0.step) := B_p0.cell 7
      have e_p0_8 : w3'.cell? ⟨w.heap.size, 8, none⟩ = some (.slice p0.ha p0.hn p0.hc) := B_p0.cell 8
      have e_p0_9 : w3'.cell? ⟨w.heap.size, 9, none⟩ = some (.int .i64 a0.status) := B_p0.cell 9
      have e_p0_10 : w3'.cell? ⟨w.heap.size, 10, none⟩ = some (.int .i64 a0.out) := B_p0.cell 10
      go_wp2_with fail
      clear e_p0_0 e_p0_1 e_p0_2 e_p0_3 e_p0_4 e_p0_5 e_p0_6 e_p0_7 e_p0_8 e_p0_9 e_p0_10
      refine (toPlayer_o a0 p0 _ (z0.below V_w3') ht0).mono ?_
      rintro e w4' ⟨y0, F_y0, rfl, oy0, u_w4'⟩
      replace B_p0 := B_p0.below u_w4'
      have V_w4' := V_w3'.trans (u_w4'.mono (V_w3').size)
      have S_w4' := u_w4'.size
      clear u_w4' V_w3'
      have Q_oy0 := Lib.hid oy0.feet
      go_wp2_with fail
      refine (toMessageS_o _ _ _ l1 _ (z1.below V_w4') ht1).mono ?_
      rintro e w5' ⟨y1, yc1, F_y1, rfl, oy1, u_w5'⟩
      replace B_p0 := B_p0.below u_w5'
      replace oy0 := oy0.below u_w5'
      have V_w5' := V_w4'.trans (u_w5'.mono (V_w4').size)
      have S_w5' := u_w5'.size
      clear u_w5' V_w4'
      have Q_oy1 := Lib.hid oy1.feet
      go_wp2_with fail
      refine (CS.out _ _ _ _ _ oy0.rd oy1.rd (LX.out.below V_w5')).mono ?_
      rintro e w6' ⟨r0, F_r0, rfl, or0, u_w6'⟩
      replace B_p0 := B_p0.below u_w6'
      replace oy0 := oy0.below u_w6'
      replace oy1 := oy1.below u_w6'
      have V_w6' := V_w5'.trans (u_w6'.mono (V_w5').size)
      have S_w6' := u_w6'.size
      clear u_w6' V_w5'
      have Q_or0 := Lib.hid or0.feet
      clear oy0
      clear oy1
      have e_p0_0 : w6'.cell? ⟨w.heap.size, 0, none⟩ = some (.int .i64 a0.P) := B_p0.cell 0
      have e_p0_0_0 : (w6'.alloc (.cells #[.int .i64 d0_0.P, .int .i64 d0_0.party, .int .i64 d0_0.input, .int .i64 d0_0.mask, .int .i64 d0_0.delta, .slice r0.sa r0.sn r0.sc, .slice r0.ka r0.kn r0.kc, .int .i64 d0_0.step, .slice r0.ha r0.hn r0.hc, .int .i64 d0_0.status, .int .i64 d0_0.out] 31)).cell? ⟨w.heap.size, 0, none⟩ = some (.int .i64 a0.P) := keepA _ e_p0_0
      have e_p0_1 : w6'.cell? ⟨w.heap.size, 1, none⟩ = some (.int .i64 a0.party) := B_p0.cell 1
      have e_p0_1_0 : (w6'.alloc (.cells #[.int .i64 d0_0.P, .int .i64 d0_0.party, .int .i64 d0_0.input, .int .i64 d0_0.mask, .int .i64 d0_0.delta, .slice r0.sa r0.sn r0.sc, .slice r0.ka r0.kn r0.kc, .int .i64 d0_0.step, .slice r0.ha r0.hn r0.hc, .int .i64 d0_0.status, .int .i64 d0_0.out] 31)).cell? ⟨w.heap.size, 1, none⟩ = some (.int .i64 a0.party) := keepA _ e_p0_1
      have e_p0_2 : w6'.cell? ⟨w.heap.size, 2, none⟩ = some (.int .i64 a0.input) := B_p0.cell 2
      have e_p0_2_0 : (w6'.alloc (.cells #[.int .i64 d0_0.P, .int .i64 d0_0.party, .int .i64 d0_0.input, .int .i64 d0_0.mask, .int .i64 d0_0.delta, .slice r0.sa r0.sn r0.sc, .slice r0.ka r0.kn r0.kc, .int .i64 d0_0.step, .slice r0.ha r0.hn r0.hc, .int .i64 d0_0.status, .int .i64 d0_0.out] 31)).cell? ⟨w.heap.size, 2, none⟩ = some (.int .i64 a0.input) := keepA _ e_p0_2
      have e_p0_3 : w6'.cell? ⟨w.heap.size, 3, none⟩ = some (.int .i64 a0.mask) := B_p0.cell 3
      have e_p0_3_0 : (w6'.alloc (.cells #[.int .i64 d0_0.P, .int .i64 d0_0.party, .int .i64 d0_0.input, .int .i64 d0_0.mask, .int .i64 d0_0.delta, .slice r0.sa r0.sn r0.sc, .slice r0.ka r0.kn r0.kc, .int .i64 d0_0.step, .slice r0.ha r0.hn r0.hc, .int .i64 d0_0.status, .int .i64 d0_0.out] 31)).cell? ⟨w.heap.size, 3, none⟩ = some (.int .i64 a0.mask) := keepA _ e_p0_3
      have e_p0_4 : w6'.cell? ⟨w.heap.size, 4, none⟩ = some (.int .i64 a0.delta) := B_p0.cell 4
      have e_p0_4_0 : (w6'.alloc (.cells #[.int .i64 d0_0.P, .int .i64 d0_0.party, .int .i64 d0_0.input, .int .i64 d0_0.mask, .int .i64 d0_0.delta, .slice r0.sa r0.sn r0.sc, .slice r0.ka r0.kn r0.kc, .int .i64 d0_0.step, .slice r0.ha r0.hn r0.hc, .int .i64 d0_0.status, .int .i64 d0_0.out] 31)).cell? ⟨w.heap.size, 4, none⟩ = some (.int .i64 a0.delta) := keepA _ e_p0_4
      have e_p0_5 : w6'.cell? ⟨w.heap.size, 5, none⟩ = some (.slice p0.sa p0.sn p0.sc) := B_p0.cell 5
      have e_p0_5_0 : (w6'.alloc (.cells #[.int .i64 d0_0.P, .int .i64 d0_0.party, .int .i64 d0_0.input, .int .i64 d0_0.mask, .int .i64 d0_0.delta, .slice r0.sa r0.sn r0.sc, .slice r0.ka r0.kn r0.kc, .int .i64 d0_0.step, .slice r0.ha r0.hn r0.hc, .int .i64 d0_0.status, .int .i64 d0_0.out] 31)).cell? ⟨w.heap.size, 5, none⟩ = some (.slice p0.sa p0.sn p0.sc) := keepA _ e_p0_5
      have e_p0_6 : w6'.cell? ⟨w.heap.size, 6, none⟩ = some (.slice p0.ka p0.kn p0.kc) := B_p0.cell 6
      have e_p0_6_0 : (w6'.alloc (.cells #[.int .i64 d0_0.P, .int .i64 d0_0.party, .int .i64 d0_0.input, .int .i64 d0_0.mask, .int .i64 d0_0.delta, .slice r0.sa r0.sn r0.sc, .slice r0.ka r0.kn r0.kc, .int .i64 d0_0.step, .slice r0.ha r0.hn r0.hc, .int .i64 d0_0.status, .int .i64 d0_0.out] 31)).cell? ⟨w.heap.size, 6, none⟩ = some (.slice p0.ka p0.kn p0.kc) := keepA _ e_p0_6
      have e_p0_7 : w6'.cell? ⟨w.heap.size, 7, none⟩ = some (.int .i64 a0.step) := B_p0.cell 7
      have e_p0_7_0 : (w6'.alloc (.cells #[.int .i64 d0_0.P, .int .i64 d0_0.party, .int .i64 d0_0.input, .int .i64 d0_0.mask, .int .i64 d0_0.delta, .slice r0.sa r0.sn r0.sc, .slice r0.ka r0.kn r0.kc, .int .i64 d0_0.step, .slice r0.ha r0.hn r0.hc, .int .i64 d0_0.status, .int .i64 d0_0.out] 31)).cell? ⟨w.heap.size, 7, none⟩ = some (.int .i64 a0.step) := keepA _ e_p0_7
      have e_p0_8 : w6'.cell? ⟨w.heap.size, 8, none⟩ = some (.slice p0.ha p0.hn p0.hc) := B_p0.cell 8
      have e_p0_8_0 : (w6'.alloc (.cells #[.int .i64 d0_0.P, .int .i64 d0_0.party, .int .i64 d0_0.input, .int .i64 d0_0.mask, .int .i64 d0_0.delta, .slice r0.sa r0.sn r0.sc, .slice r0.ka r0.kn r0.kc, .int .i64 d0_0.step, .slice r0.ha r0.hn r0.hc, .int .i64 d0_0.status, .int .i64 d0_0.out] 31)).cell? ⟨w.heap.size, 8, none⟩ = some (.slice p0.ha p0.hn p0.hc) := keepA _ e_p0_8
      have e_p0_9 : w6'.cell? ⟨w.heap.size, 9, none⟩ = some (.int .i64 a0.status) := B_p0.cell 9
      have e_p0_9_0 : (w6'.alloc (.cells #[.int .i64 d0_0.P, .int .i64 d0_0.party, .int .i64 d0_0.input, .int .i64 d0_0.mask, .int .i64 d0_0.delta, .slice r0.sa r0.sn r0.sc, .slice r0.ka r0.kn r0.kc, .int .i64 d0_0.step, .slice r0.ha r0.hn r0.hc, .int .i64 d0_0.status, .int .i64 d0_0.out] 31)).cell? ⟨w.heap.size, 9, none⟩ = some (.int .i64 a0.status) := keepA _ e_p0_9
      have e_p0_10 : w6'.cell? ⟨w.heap.size, 10, none⟩ = some (.int .i64 a0.out) := B_p0.cell 10
      have e_p0_10_0 : (w6'.alloc (.cells #[.int .i64 d0_0.P, .int .i64 d0_0.party, .int .i64 d0_0.input, .int .i64 d0_0.mask, .int .i64 d0_0.delta, .slice r0.sa r0.sn r0.sc, .slice r0.ka r0.kn r0.kc, .int .i64 d0_0.step, .slice r0.ha r0.hn r0.hc, .int .i64 d0_0.status, .int .i64 d0_0.out] 31)).cell? ⟨w.heap.size, 10, none⟩ = some (.int .i64 a0.out) := keepA _ e_p0_10
      go_wp2_with fail
      clear e_p0_0 e_p0_0_0 e_p0_1 e_p0_1_0 e_p0_2 e_p0_2_0 e_p0_3 e_p0_3_0 e_p0_4 e_p0_4_0 e_p0_5 e_p0_5_0 e_p0_6 e_p0_6_0 e_p0_7 e_p0_7_0 e_p0_8 e_p0_8_0 e_p0_9 e_p0_9_0 e_p0_10 e_p0_10_0
      have V_w7' : Below w.heap.size w (w6'.alloc (.cells #[.int .i64 d0_0.P, .int .i64 d0_0.party, .int .i64 d0_0.input, .int .i64 d0_0.mask, .int .i64 d0_0.delta, .slice r0.sa r0.sn r0.sc, .slice r0.ka r0.kn r0.kc, .int .i64 d0_0.step, .slice r0.ha r0.hn r0.hc, .int .i64 d0_0.status, .int .i64 d0_0.out] 31)) := ((V_w6').alloc (by have := (V_w6').size; first | exact this | (simp; omega) | simp) _)
      replace B_p0 := B_p0.alloc (.cells #[.int .i64 d0_0.P, .int .i64 d0_0.party, .int .i64 d0_0.input, .int .i64 d0_0.mask, .int .i64 d0_0.delta, .slice r0.sa r0.sn r0.sc, .slice r0.ka r0.kn r0.kc, .int .i64 d0_0.step, .slice r0.ha r0.hn r0.hc, .int .i64 d0_0.status, .int .i64 d0_0.out] 31)
      replace or0 := or0.alloc (.cells #[.int .i64 d0_0.P, .int .i64 d0_0.party, .int .i64 d0_0.input, .int .i64 d0_0.mask, .int .i64 d0_0.delta, .slice r0.sa r0.sn r0.sc, .slice r0.ka r0.kn r0.kc, .int .i64 d0_0.step, .slice r0.ha r0.hn r0.hc, .int .i64 d0_0.status, .int .i64 d0_0.out] 31)
      have B_r0 : Blk (w6'.alloc (.cells #[.int .i64 d0_0.P, .int .i64 d0_0.party, .int .i64 d0_0.input, .int .i64 d0_0.mask, .int .i64 d0_0.delta, .slice r0.sa r0.sn r0.sc, .slice r0.ka r0.kn r0.kc, .int .i64 d0_0.step, .slice r0.ha r0.hn r0.hc, .int .i64 d0_0.status, .int .i64 d0_0.out] 31)) (w6'.heap.size) 31 #[.int .i64 d0_0.P, .int .i64 d0_0.party, .int .i64 d0_0.input, .int .i64 d0_0.mask, .int .i64 d0_0.delta, .slice r0.sa r0.sn r0.sc, .slice r0.ka r0.kn r0.kc, .int .i64 d0_0.step, .slice r0.ha r0.hn r0.hc, .int .i64 d0_0.status, .int .i64 d0_0.out] := Blk.new w6' 31 #[.int .i64 d0_0.P, .int .i64 d0_0.party, .int .i64 d0_0.input, .int .i64 d0_0.mask, .int .i64 d0_0.delta, .slice r0.sa r0.sn r0.sc, .slice r0.ka r0.kn r0.kc, .int .i64 d0_0.step, .slice r0.ha r0.hn r0.hc, .int .i64 d0_0.status, .int .i64 d0_0.out]
      have S_w7' : w6'.heap.size + 1 ≤ (w6'.alloc (.cells #[.int .i64 d0_0.P, .int .i64 d0_0.party, .int .i64 d0_0.input, .int .i64 d0_0.mask, .int .i64 d0_0.delta, .slice r0.sa r0.sn r0.sc, .slice r0.ka r0.kn r0.kc, .int .i64 d0_0.step, .slice r0.ha r0.hn r0.hc, .int .i64 d0_0.status, .int .i64 d0_0.out] 31)).heap.size := by simp
      generalize (w6'.alloc (.cells #[.int .i64 d0_0.P, .int .i64 d0_0.party, .int .i64 d0_0.input, .int .i64 d0_0.mask, .int .i64 d0_0.delta, .slice r0.sa r0.sn r0.sc, .slice r0.ka r0.kn r0.kc, .int .i64 d0_0.step, .slice r0.ha r0.hn r0.hc, .int .i64 d0_0.status, .int .i64 d0_0.out] 31)) = w7' at *
      clear V_w6'
      refine (toPlayer_o a0 p0 _ (z0.below V_w7') ht0).mono ?_
      rintro e w8' ⟨x0, F_x0, rfl, ox0, u_w8'⟩
      replace B_p0 := B_p0.below u_w8'
      replace B_r0 := B_r0.below u_w8'
      replace or0 := or0.below u_w8'
      have V_w8' := V_w7'.trans (u_w8'.mono (V_w7').size)
      have S_w8' := u_w8'.size
      clear u_w8' V_w7'
      have Q_ox0 := Lib.hid ox0.feet
      go_wp2_with fail
      have V_w9' : Below w.heap.size w (w8'.alloc (.cells #[.int .i64 a0.P, .int .i64 a0.party, .int .i64 a0.input, .int .i64 a0.mask, .int .i64 a0.delta, .slice x0.sa x0.sn x0.sc, .slice x0.ka x0.kn x0.kc, .int .i64 a0.step, .slice x0.ha x0.hn x0.hc, .int .i64 a0.status, .int .i64 a0.out] 31)) := ((V_w8').alloc (by have := (V_w8').size; first | exact this | (simp; omega) | simp) _)
      replace B_p0 := B_p0.alloc (.cells #[.int .i64 a0.P, .int .i64 a0.party, .int .i64 a0.input, .int .i64 a0.mask, .int .i64 a0.delta, .slice x0.sa x0.sn x0.sc, .slice x0.ka x0.kn x0.kc, .int .i64 a0.step, .slice x0.ha x0.hn x0.hc, .int .i64 a0.status, .int .i64 a0.out] 31)
      replace B_r0 := B_r0.alloc (.cells #[.int .i64 a0.P, .int .i64 a0.party, .int .i64 a0.input, .int .i64 a0.mask, .int .i64 a0.delta, .slice x0.sa x0.sn x0.sc, .slice x0.ka x0.kn x0.kc, .int .i64 a0.step, .slice x0.ha x0.hn x0.hc, .int .i64 a0.status, .int .i64 a0.out] 31)
      replace or0 := or0.alloc (.cells #[.int .i64 a0.P, .int .i64 a0.party, .int .i64 a0.input, .int .i64 a0.mask, .int .i64 a0.delta, .slice x0.sa x0.sn x0.sc, .slice x0.ka x0.kn x0.kc, .int .i64 a0.step, .slice x0.ha x0.hn x0.hc, .int .i64 a0.status, .int .i64 a0.out] 31)
      replace ox0 := ox0.alloc (.cells #[.int .i64 a0.P, .int .i64 a0.party, .int .i64 a0.input, .int .i64 a0.mask, .int .i64 a0.delta, .slice x0.sa x0.sn x0.sc, .slice x0.ka x0.kn x0.kc, .int .i64 a0.step, .slice x0.ha x0.hn x0.hc, .int .i64 a0.status, .int .i64 a0.out] 31)
      have B_x0 : Blk (w8'.alloc (.cells #[.int .i64 a0.P, .int .i64 a0.party, .int .i64 a0.input, .int .i64 a0.mask, .int .i64 a0.delta, .slice x0.sa x0.sn x0.sc, .slice x0.ka x0.kn x0.kc, .int .i64 a0.step, .slice x0.ha x0.hn x0.hc, .int .i64 a0.status, .int .i64 a0.out] 31)) (w8'.heap.size) 31 #[.int .i64 a0.P, .int .i64 a0.party, .int .i64 a0.input, .int .i64 a0.mask, .int .i64 a0.delta, .slice x0.sa x0.sn x0.sc, .slice x0.ka x0.kn x0.kc, .int .i64 a0.step, .slice x0.ha x0.hn x0.hc, .int .i64 a0.status, .int .i64 a0.out] := Blk.new w8' 31 #[.int .i64 a0.P, .int .i64 a0.party, .int .i64 a0.input, .int .i64 a0.mask, .int .i64 a0.delta, .slice x0.sa x0.sn x0.sc, .slice x0.ka x0.kn x0.kc, .int .i64 a0.step, .slice x0.ha x0.hn x0.hc, .int .i64 a0.status, .int .i64 a0.out]
      have S_w9' : w8'.heap.size + 1 ≤ (w8'.alloc (.cells #[.int .i64 a0.P, .int .i64 a0.party, .int .i64 a0.input, .int .i64 a0.mask, .int .i64 a0.delta, .slice x0.sa x0.sn x0.sc, .slice x0.ka x0.kn x0.kc, .int .i64 a0.step, .slice x0.ha x0.hn x0.hc, .int .i64 a0.status, .int .i64 a0.out] 31)).heap.size := by simp
      generalize (w8'.alloc (.cells #[.int .i64 a0.P, .int .i64 a0.party, .int .i64 a0.input, .int .i64 a0.mask, .int .i64 a0.delta, .slice x0.sa x0.sn x0.sc, .slice x0.ka x0.kn x0.kc, .int .i64 a0.step, .slice x0.ha x0.hn x0.hc, .int .i64 a0.status, .int .i64 a0.out] 31)) = w9' at *
      clear V_w8'
      refine (toMessageS_o _ _ _ l1 _ (z1.below V_w9') ht1).mono ?_
      rintro e w10' ⟨x1, xc1, F_x1, rfl, ox1, u_w10'⟩
      replace B_p0 := B_p0.below u_w10'
      replace B_r0 := B_r0.below u_w10'
      replace B_x0 := B_x0.below u_w10'
      replace or0 := or0.below u_w10'
      replace ox0 := ox0.below u_w10'
      have V_w10' := V_w9'.trans (u_w10'.mono (V_w9').size)
      have S_w10' := u_w10'.size
      clear u_w10' V_w9'
      have Q_ox1 := Lib.hid ox1.feet
      have e_x0_0 : w10'.cell? ⟨w8'.heap.size, 0, none⟩ = some (.int .i64 a0.P) := B_x0.cell 0
      have e_x0_1 : w10'.cell? ⟨w8'.heap.size, 1, none⟩ = some (.int .i64 a0.party) := B_x0.cell 1
      have e_x0_2 : w10'.cell? ⟨w8'.heap.size, 2, none⟩ = some (.int .i64 a0.input) := B_x0.cell 2
      have e_x0_3 : w10'.cell? ⟨w8'.heap.size, 3, none⟩ = some (.int .i64 a0.mask) := B_x0.cell 3
      have e_x0_4 : w10'.cell? ⟨w8'.heap.size, 4, none⟩ = some (.int .i64 a0.delta) := B_x0.cell 4
      have e_x0_5 : w10'.cell? ⟨w8'.heap.size, 5, none⟩ = some (.slice x0.sa x0.sn x0.sc) := B_x0.cell 5
      have e_x0_6 : w10'.cell? ⟨w8'.heap.size, 6, none⟩ = some (.slice x0.ka x0.kn x0.kc) := B_x0.cell 6
      have e_x0_7 : w10'.cell? ⟨w8'.heap.size, 7, none⟩ = some (.int .i64 a0.step) := B_x0.cell 7
      have e_x0_8 : w10'.cell? ⟨w8'.heap.size, 8, none⟩ = some (.slice x0.ha x0.hn x0.hc) := B_x0.cell 8
      have e_x0_9 : w10'.cell? ⟨w8'.heap.size, 9, none⟩ = some (.int .i64 a0.status) := B_x0.cell 9
      have e_x0_10 : w10'.cell? ⟨w8'.heap.size, 10, none⟩ = some (.int .i64 a0.out) := B_x0.cell 10
      go_wp2_with fail
      clear e_x0_0 e_x0_1 e_x0_2 e_x0_3 e_x0_4 e_x0_5 e_x0_6 e_x0_7 e_x0_8 e_x0_9 e_x0_10
      refine (CI.out _ _ _ _ _ ox0.rd ox1.rd (LX.out.below V_w10')).mono ?_
      rintro e w11' ⟨g0, F_g0, rfl, og0, u_w11'⟩
      replace B_p0 := B_p0.below u_w11'
      replace B_r0 := B_r0.below u_w11'
      replace B_x0 := B_x0.below u_w11'
      replace or0 := or0.below u_w11'
      replace ox0 := ox0.below u_w11'
      replace ox1 := ox1.below u_w11'
      have V_w11' := V_w10'.trans (u_w11'.mono (V_w10').size)
      have S_w11' := u_w11'.size
      clear u_w11' V_w10'
      have Q_og0 := Lib.hid og0.feet
      have e_r0_0 : w11'.cell? ⟨w6'.heap.size, 0, none⟩ = some (.int .i64 d0_0.P) := B_r0.cell 0
      have e_r0_0_0 : (w11'.alloc (.cells #[.int .i64 d0_0.P, .int .i64 d0_0.party, .int .i64 d0_0.input, .int .i64 d0_0.mask, .int .i64 d0_0.delta, .slice g0.sa g0.sn g0.sc, .slice g0.ka g0.kn g0.kc, .int .i64 d0_0.step, .slice g0.ha g0.hn g0.hc, .int .i64 d0_0.status, .int .i64 d0_0.out] 31)).cell? ⟨w6'.heap.size, 0, none⟩ = some (.int .i64 d0_0.P) := keepA _ e_r0_0
      have e_r0_1 : w11'.cell? ⟨w6'.heap.size, 1, none⟩ = some (.int .i64 d0_0.party) := B_r0.cell 1
      have e_r0_1_0 : (w11'.alloc (.cells #[.int .i64 d0_0.P, .int .i64 d0_0.party, .int .i64 d0_0.input, .int .i64 d0_0.mask, .int .i64 d0_0.delta, .slice g0.sa g0.sn g0.sc, .slice g0.ka g0.kn g0.kc, .int .i64 d0_0.step, .slice g0.ha g0.hn g0.hc, .int .i64 d0_0.status, .int .i64 d0_0.out] 31)).cell? ⟨w6'.heap.size, 1, none⟩ = some (.int .i64 d0_0.party) := keepA _ e_r0_1
      have e_r0_2 : w11'.cell? ⟨w6'.heap.size, 2, none⟩ = some (.int .i64 d0_0.input) := B_r0.cell 2
      have e_r0_2_0 : (w11'.alloc (.cells #[.int .i64 d0_0.P, .int .i64 d0_0.party, .int .i64 d0_0.input, .int .i64 d0_0.mask, .int .i64 d0_0.delta, .slice g0.sa g0.sn g0.sc, .slice g0.ka g0.kn g0.kc, .int .i64 d0_0.step, .slice g0.ha g0.hn g0.hc, .int .i64 d0_0.status, .int .i64 d0_0.out] 31)).cell? ⟨w6'.heap.size, 2, none⟩ = some (.int .i64 d0_0.input) := keepA _ e_r0_2
      have e_r0_3 : w11'.cell? ⟨w6'.heap.size, 3, none⟩ = some (.int .i64 d0_0.mask) := B_r0.cell 3
      have e_r0_3_0 : (w11'.alloc (.cells #[.int .i64 d0_0.P, .int .i64 d0_0.party, .int .i64 d0_0.input, .int .i64 d0_0.mask, .int .i64 d0_0.delta, .slice g0.sa g0.sn g0.sc, .slice g0.ka g0.kn g0.kc, .int .i64 d0_0.step, .slice g0.ha g0.hn g0.hc, .int .i64 d0_0.status, .int .i64 d0_0.out] 31)).cell? ⟨w6'.heap.size, 3, none⟩ = some (.int .i64 d0_0.mask) := keepA _ e_r0_3
      have e_r0_4 : w11'.cell? ⟨w6'.heap.size, 4, none⟩ = some (.int .i64 d0_0.delta) := B_r0.cell 4
      have e_r0_4_0 : (w11'.alloc (.cells #[.int .i64 d0_0.P, .int .i64 d0_0.party, .int .i64 d0_0.input, .int .i64 d0_0.mask, .int .i64 d0_0.delta, .slice g0.sa g0.sn g0.sc, .slice g0.ka g0.kn g0.kc, .int .i64 d0_0.step, .slice g0.ha g0.hn g0.hc, .int .i64 d0_0.status, .int .i64 d0_0.out] 31)).cell? ⟨w6'.heap.size, 4, none⟩ = some (.int .i64 d0_0.delta) := keepA _ e_r0_4
      have e_r0_5 : w11'.cell? ⟨w6'.heap.size, 5, none⟩ = some (.slice r0.sa r0.sn r0.sc) := B_r0.cell 5
      have e_r0_5_0 : (w11'.alloc (.cells #[.int .i64 d0_0.P, .int .i64 d0_0.party, .int .i64 d0_0.input, .int .i64 d0_0.mask, .int .i64 d0_0.delta, .slice g0.sa g0.sn g0.sc, .slice g0.ka g0.kn g0.kc, .int .i64 d0_0.step, .slice g0.ha g0.hn g0.hc, .int .i64 d0_0.status, .int .i64 d0_0.out] 31)).cell? ⟨w6'.heap.size, 5, none⟩ = some (.slice r0.sa r0.sn r0.sc) := keepA _ e_r0_5
      have e_r0_6 : w11'.cell? ⟨w6'.heap.size, 6, none⟩ = some (.slice r0.ka r0.kn r0.kc) := B_r0.cell 6
      have e_r0_6_0 : (w11'.alloc (.cells #[.int .i64 d0_0.P, .int .i64 d0_0.party, .int .i64 d0_0.input, .int .i64 d0_0.mask, .int .i64 d0_0.delta, .slice g0.sa g0.sn g0.sc, .slice g0.ka g0.kn g0.kc, .int .i64 d0_0.step, .slice g0.ha g0.hn g0.hc, .int .i64 d0_0.status, .int .i64 d0_0.out] 31)).cell? ⟨w6'.heap.size, 6, none⟩ = some (.slice r0.ka r0.kn r0.kc) := keepA _ e_r0_6
      have e_r0_7 : w11'.cell? ⟨w6'.heap.size, 7, none⟩ = some (.int .i64 d0_0.step) := B_r0.cell 7
      have e_r0_7_0 : (w11'.alloc (.cells #[.int .i64 d0_0.P, .int .i64 d0_0.party, .int .i64 d0_0.input, .int .i64 d0_0.mask, .int .i64 d0_0.delta, .slice g0.sa g0.sn g0.sc, .slice g0.ka g0.kn g0.kc, .int .i64 d0_0.step, .slice g0.ha g0.hn g0.hc, .int .i64 d0_0.status, .int .i64 d0_0.out] 31)).cell? ⟨w6'.heap.size, 7, none⟩ = some (.int .i64 d0_0.step) := keepA _ e_r0_7
      have e_r0_8 : w11'.cell? ⟨w6'.heap.size, 8, none⟩ = some (.slice r0.ha r0.hn r0.hc) := B_r0.cell 8
      have e_r0_8_0 : (w11'.alloc (.cells #[.int .i64 d0_0.P, .int .i64 d0_0.party, .int .i64 d0_0.input, .int .i64 d0_0.mask, .int .i64 d0_0.delta, .slice g0.sa g0.sn g0.sc, .slice g0.ka g0.kn g0.kc, .int .i64 d0_0.step, .slice g0.ha g0.hn g0.hc, .int .i64 d0_0.status, .int .i64 d0_0.out] 31)).cell? ⟨w6'.heap.size, 8, none⟩ = some (.slice r0.ha r0.hn r0.hc) := keepA _ e_r0_8
      have e_r0_9 : w11'.cell? ⟨w6'.heap.size, 9, none⟩ = some (.int .i64 d0_0.status) := B_r0.cell 9
      have e_r0_9_0 : (w11'.alloc (.cells #[.int .i64 d0_0.P, .int .i64 d0_0.party, .int .i64 d0_0.input, .int .i64 d0_0.mask, .int .i64 d0_0.delta, .slice g0.sa g0.sn g0.sc, .slice g0.ka g0.kn g0.kc, .int .i64 d0_0.step, .slice g0.ha g0.hn g0.hc, .int .i64 d0_0.status, .int .i64 d0_0.out] 31)).cell? ⟨w6'.heap.size, 9, none⟩ = some (.int .i64 d0_0.status) := keepA _ e_r0_9
      have e_r0_10 : w11'.cell? ⟨w6'.heap.size, 10, none⟩ = some (.int .i64 d0_0.out) := B_r0.cell 10
      have e_r0_10_0 : (w11'.alloc (.cells #[.int .i64 d0_0.P, .int .i64 d0_0.party, .int .i64 d0_0.input, .int .i64 d0_0.mask, .int .i64 d0_0.delta, .slice g0.sa g0.sn g0.sc, .slice g0.ka g0.kn g0.kc, .int .i64 d0_0.step, .slice g0.ha g0.hn g0.hc, .int .i64 d0_0.status, .int .i64 d0_0.out] 31)).cell? ⟨w6'.heap.size, 10, none⟩ = some (.int .i64 d0_0.out) := keepA _ e_r0_10
      go_wp2_with fail
      clear e_r0_0 e_r0_0_0 e_r0_1 e_r0_1_0 e_r0_2 e_r0_2_0 e_r0_3 e_r0_3_0 e_r0_4 e_r0_4_0 e_r0_5 e_r0_5_0 e_r0_6 e_r0_6_0 e_r0_7 e_r0_7_0 e_r0_8 e_r0_8_0 e_r0_9 e_r0_9_0 e_r0_10 e_r0_10_0
      have V_w12' : Below w.heap.size w (w11'.alloc (.cells #[.int .i64 d0_0.P, .int .i64 d0_0.party, .int .i64 d0_0.input, .int .i64 d0_0.mask, .int .i64 d0_0.delta, .slice g0.sa g0.sn g0.sc, .slice g0.ka g0.kn g0.kc, .int .i64 d0_0.step, .slice g0.ha g0.hn g0.hc, .int .i64 d0_0.status, .int .i64 d0_0.out] 31)) := ((V_w11').alloc (by have := (V_w11').size; first | exact this | (simp; omega) | simp) _)
      replace B_p0 := B_p0.alloc (.cells #[.int .i64 d0_0.P, .int .i64 d0_0.party, .int .i64 d0_0.input, .int .i64 d0_0.mask, .int .i64 d0_0.delta, .slice g0.sa g0.sn g0.sc, .slice g0.ka g0.kn g0.kc, .int .i64 d0_0.step, .slice g0.ha g0.hn g0.hc, .int .i64 d0_0.status, .int .i64 d0_0.out] 31)
      replace B_r0 := B_r0.alloc (.cells #[.int .i64 d0_0.P, .int .i64 d0_0.party, .int .i64 d0_0.input, .int .i64 d0_0.mask, .int .i64 d0_0.delta, .slice g0.sa g0.sn g0.sc, .slice g0.ka g0.kn g0.kc, .int .i64 d0_0.step, .slice g0.ha g0.hn g0.hc, .int .i64 d0_0.status, .int .i64 d0_0.out] 31)
      replace B_x0 := B_x0.alloc (.cells #[.int .i64 d0_0.P, .int .i64 d0_0.party, .int .i64 d0_0.input, .int .i64 d0_0.mask, .int .i64 d0_0.delta, .slice g0.sa g0.sn g0.sc, .slice g0.ka g0.kn g0.kc, .int .i64 d0_0.step, .slice g0.ha g0.hn g0.hc, .int .i64 d0_0.status, .int .i64 d0_0.out] 31)
      replace or0 := or0.alloc (.cells #[.int .i64 d0_0.P, .int .i64 d0_0.party, .int .i64 d0_0.input, .int .i64 d0_0.mask, .int .i64 d0_0.delta, .slice g0.sa g0.sn g0.sc, .slice g0.ka g0.kn g0.kc, .int .i64 d0_0.step, .slice g0.ha g0.hn g0.hc, .int .i64 d0_0.status, .int .i64 d0_0.out] 31)
      replace ox0 := ox0.alloc (.cells #[.int .i64 d0_0.P, .int .i64 d0_0.party, .int .i64 d0_0.input, .int .i64 d0_0.mask, .int .i64 d0_0.delta, .slice g0.sa g0.sn g0.sc, .slice g0.ka g0.kn g0.kc, .int .i64 d0_0.step, .slice g0.ha g0.hn g0.hc, .int .i64 d0_0.status, .int .i64 d0_0.out] 31)
      replace ox1 := ox1.alloc (.cells #[.int .i64 d0_0.P, .int .i64 d0_0.party, .int .i64 d0_0.input, .int .i64 d0_0.mask, .int .i64 d0_0.delta, .slice g0.sa g0.sn g0.sc, .slice g0.ka g0.kn g0.kc, .int .i64 d0_0.step, .slice g0.ha g0.hn g0.hc, .int .i64 d0_0.status, .int .i64 d0_0.out] 31)
      replace og0 := og0.alloc (.cells #[.int .i64 d0_0.P, .int .i64 d0_0.party, .int .i64 d0_0.input, .int .i64 d0_0.mask, .int .i64 d0_0.delta, .slice g0.sa g0.sn g0.sc, .slice g0.ka g0.kn g0.kc, .int .i64 d0_0.step, .slice g0.ha g0.hn g0.hc, .int .i64 d0_0.status, .int .i64 d0_0.out] 31)
      have B_g0 : Blk (w11'.alloc (.cells #[.int .i64 d0_0.P, .int .i64 d0_0.party, .int .i64 d0_0.input, .int .i64 d0_0.mask, .int .i64 d0_0.delta, .slice g0.sa g0.sn g0.sc, .slice g0.ka g0.kn g0.kc, .int .i64 d0_0.step, .slice g0.ha g0.hn g0.hc, .int .i64 d0_0.status, .int .i64 d0_0.out] 31)) (w11'.heap.size) 31 #[.int .i64 d0_0.P, .int .i64 d0_0.party, .int .i64 d0_0.input, .int .i64 d0_0.mask, .int .i64 d0_0.delta, .slice g0.sa g0.sn g0.sc, .slice g0.ka g0.kn g0.kc, .int .i64 d0_0.step, .slice g0.ha g0.hn g0.hc, .int .i64 d0_0.status, .int .i64 d0_0.out] := Blk.new w11' 31 #[.int .i64 d0_0.P, .int .i64 d0_0.party, .int .i64 d0_0.input, .int .i64 d0_0.mask, .int .i64 d0_0.delta, .slice g0.sa g0.sn g0.sc, .slice g0.ka g0.kn g0.kc, .int .i64 d0_0.step, .slice g0.ha g0.hn g0.hc, .int .i64 d0_0.status, .int .i64 d0_0.out]
      have S_w12' : w11'.heap.size + 1 ≤ (w11'.alloc (.cells #[.int .i64 d0_0.P, .int .i64 d0_0.party, .int .i64 d0_0.input, .int .i64 d0_0.mask, .int .i64 d0_0.delta, .slice g0.sa g0.sn g0.sc, .slice g0.ka g0.kn g0.kc, .int .i64 d0_0.step, .slice g0.ha g0.hn g0.hc, .int .i64 d0_0.status, .int .i64 d0_0.out] 31)).heap.size := by simp
      generalize (w11'.alloc (.cells #[.int .i64 d0_0.P, .int .i64 d0_0.party, .int .i64 d0_0.input, .int .i64 d0_0.mask, .int .i64 d0_0.delta, .slice g0.sa g0.sn g0.sc, .slice g0.ka g0.kn g0.kc, .int .i64 d0_0.step, .slice g0.ha g0.hn g0.hc, .int .i64 d0_0.status, .int .i64 d0_0.out] 31)) = w12' at *
      clear V_w11'
      refine (eqPlayer_o d0_0 _ _ _ og0.rd or0.rd).mono ?_
      rintro e w13' ⟨rfl, u_w13'⟩
      replace B_p0 := B_p0.below u_w13'
      replace B_r0 := B_r0.below u_w13'
      replace B_x0 := B_x0.below u_w13'
      replace B_g0 := B_g0.below u_w13'
      replace or0 := or0.below u_w13'
      replace ox0 := ox0.below u_w13'
      replace ox1 := ox1.below u_w13'
      replace og0 := og0.below u_w13'
      have V_w13' := V_w12'.trans (u_w13'.mono (V_w12').size)
      have S_w13' := u_w13'.size
      clear u_w13' V_w12'
      have e_x0_0 : w13'.cell? ⟨w8'.heap.size, 0, none⟩ = some (.int .i64 a0.P) := B_x0.cell 0
      have e_x0_1 : w13'.cell? ⟨w8'.heap.size, 1, none⟩ = some (.int .i64 a0.party) := B_x0.cell 1
      have e_x0_2 : w13'.cell? ⟨w8'.heap.size, 2, none⟩ = some (.int .i64 a0.input) := B_x0.cell 2
      have e_x0_3 : w13'.cell? ⟨w8'.heap.size, 3, none⟩ = some (.int .i64 a0.mask) := B_x0.cell 3
      have e_x0_4 : w13'.cell? ⟨w8'.heap.size, 4, none⟩ = some (.int .i64 a0.delta) := B_x0.cell 4
      have e_x0_5 : w13'.cell? ⟨w8'.heap.size, 5, none⟩ = some (.slice x0.sa x0.sn x0.sc) := B_x0.cell 5
      have e_x0_6 : w13'.cell? ⟨w8'.heap.size, 6, none⟩ = some (.slice x0.ka x0.kn x0.kc) := B_x0.cell 6
      have e_x0_7 : w13'.cell? ⟨w8'.heap.size, 7, none⟩ = some (.int .i64 a0.step) := B_x0.cell 7
      have e_x0_8 : w13'.cell? ⟨w8'.heap.size, 8, none⟩ = some (.slice x0.ha x0.hn x0.hc) := B_x0.cell 8
      have e_x0_9 : w13'.cell? ⟨w8'.heap.size, 9, none⟩ = some (.int .i64 a0.status) := B_x0.cell 9
      have e_x0_10 : w13'.cell? ⟨w8'.heap.size, 10, none⟩ = some (.int .i64 a0.out) := B_x0.cell 10
      have e_p0_0 : w13'.cell? ⟨w.heap.size, 0, none⟩ = some (.int .i64 a0.P) := B_p0.cell 0
      have e_p0_1 : w13'.cell? ⟨w.heap.size, 1, none⟩ = some (.int .i64 a0.party) := B_p0.cell 1
      have e_p0_2 : w13'.cell? ⟨w.heap.size, 2, none⟩ = some (.int .i64 a0.input) := B_p0.cell 2
      have e_p0_3 : w13'.cell? ⟨w.heap.size, 3, none⟩ = some (.int .i64 a0.mask) := B_p0.cell 3
      have e_p0_4 : w13'.cell? ⟨w.heap.size, 4, none⟩ = some (.int .i64 a0.delta) := B_p0.cell 4
      have e_p0_5 : w13'.cell? ⟨w.heap.size, 5, none⟩ = some (.slice p0.sa p0.sn p0.sc) := B_p0.cell 5
      have e_p0_6 : w13'.cell? ⟨w.heap.size, 6, none⟩ = some (.slice p0.ka p0.kn p0.kc) := B_p0.cell 6
      have e_p0_7 : w13'.cell? ⟨w.heap.size, 7, none⟩ = some (.int .i64 a0.step) := B_p0.cell 7
      have e_p0_8 : w13'.cell? ⟨w.heap.size, 8, none⟩ = some (.slice p0.ha p0.hn p0.hc) := B_p0.cell 8
      have e_p0_9 : w13'.cell? ⟨w.heap.size, 9, none⟩ = some (.int .i64 a0.status) := B_p0.cell 9
      have e_p0_10 : w13'.cell? ⟨w.heap.size, 10, none⟩ = some (.int .i64 a0.out) := B_p0.cell 10
      go_wp2
      go_region_held3 (fun W => W.cell? ⟨w8'.heap.size, 0, none⟩ = some (.int .i64 a0.P) ∧ W.cell? ⟨w8'.heap.size, 1, none⟩ = some (.int .i64 a0.party) ∧ W.cell? ⟨w8'.heap.size, 2, none⟩ = some (.int .i64 a0.input) ∧ W.cell? ⟨w8'.heap.size, 3, none⟩ = some (.int .i64 a0.mask) ∧ W.cell? ⟨w8'.heap.size, 4, none⟩ = some (.int .i64 a0.delta) ∧ W.cell? ⟨w8'.heap.size, 5, none⟩ = some (.slice x0.sa x0.sn x0.sc) ∧ W.cell? ⟨w8'.heap.size, 6, none⟩ = some (.slice x0.ka x0.kn x0.kc) ∧ W.cell? ⟨w8'.heap.size, 7, none⟩ = some (.int .i64 a0.step) ∧ W.cell? ⟨w8'.heap.size, 8, none⟩ = some (.slice x0.ha x0.hn x0.hc) ∧ W.cell? ⟨w8'.heap.size, 9, none⟩ = some (.int .i64 a0.status) ∧ W.cell? ⟨w8'.heap.size, 10, none⟩ = some (.int .i64 a0.out) ∧ W.cell? ⟨w.heap.size, 0, none⟩ = some (.int .i64 a0.P) ∧ W.cell? ⟨w.heap.size, 1, none⟩ = some (.int .i64 a0.party) ∧ W.cell? ⟨w.heap.size, 2, none⟩ = some (.int .i64 a0.input) ∧ W.cell? ⟨w.heap.size, 3, none⟩ = some (.int .i64 a0.mask) ∧ W.cell? ⟨w.heap.size, 4, none⟩ = some (.int .i64 a0.delta) ∧ W.cell? ⟨w.heap.size, 5, none⟩ = some (.slice p0.sa p0.sn p0.sc) ∧ W.cell? ⟨w.heap.size, 6, none⟩ = some (.slice p0.ka p0.kn p0.kc) ∧ W.cell? ⟨w.heap.size, 7, none⟩ = some (.int .i64 a0.step) ∧ W.cell? ⟨w.heap.size, 8, none⟩ = some (.slice p0.ha p0.hn p0.hc) ∧ W.cell? ⟨w.heap.size, 9, none⟩ = some (.int .i64 a0.status) ∧ W.cell? ⟨w.heap.size, 10, none⟩ = some (.int .i64 a0.out))
        (first | go_keep | exact ⟨keepC tv (keepC tu e_x0_0), keepC tv (keepC tu e_x0_1), keepC tv (keepC tu e_x0_2), keepC tv (keepC tu e_x0_3), keepC tv (keepC tu e_x0_4), keepC tv (keepC tu e_x0_5), keepC tv (keepC tu e_x0_6), keepC tv (keepC tu e_x0_7), keepC tv (keepC tu e_x0_8), keepC tv (keepC tu e_x0_9), keepC tv (keepC tu e_x0_10), keepC tv (keepC tu e_p0_0), keepC tv (keepC tu e_p0_1), keepC tv (keepC tu e_p0_2), keepC tv (keepC tu e_p0_3), keepC tv (keepC tu e_p0_4), keepC tv (keepC tu e_p0_5), keepC tv (keepC tu e_p0_6), keepC tv (keepC tu e_p0_7), keepC tv (keepC tu e_p0_8), keepC tv (keepC tu e_p0_9), keepC tv (keepC tu e_p0_10)⟩ | exact ⟨keepC tu e_x0_0, keepC tu e_x0_1, keepC tu e_x0_2, keepC tu e_x0_3, keepC tu e_x0_4, keepC tu e_x0_5, keepC tu e_x0_6, keepC tu e_x0_7, keepC tu e_x0_8, keepC tu e_x0_9, keepC tu e_x0_10, keepC tu e_p0_0, keepC tu e_p0_1, keepC tu e_p0_2, keepC tu e_p0_3, keepC tu e_p0_4, keepC tu e_p0_5, keepC tu e_p0_6, keepC tu e_p0_7, keepC tu e_p0_8, keepC tu e_p0_9, keepC tu e_p0_10⟩)
        (first | (go_at_call 15; refine (toPlayer_o a0 p0 _ (z0.below V_w13'.drew) ht0).mono ?_; rintro e wt ⟨t0, F_t0, rfl, ot0, tu⟩) | (go_at_call 17; refine (eqPlayer_o a0 _ _ _ (ox0.drew.below tu).rd ot0.rd).mono ?_; rintro e wq ⟨rfl, tv⟩))
      have u_w14' : Below w13'.heap.size w13' wq := (Below.refl _ _).drew.trans (tu.trans (tv.mono tu.size))
      clear tu tv e_x0_0 e_x0_1 e_x0_2 e_x0_3 e_x0_4 e_x0_5 e_x0_6 e_x0_7 e_x0_8 e_x0_9 e_x0_10 e_p0_0 e_p0_1 e_p0_2 e_p0_3 e_p0_4 e_p0_5 e_p0_6 e_p0_7 e_p0_8 e_p0_9 e_p0_10 ot0
      replace B_p0 := B_p0.below u_w14'
      replace B_r0 := B_r0.below u_w14'
      replace B_x0 := B_x0.below u_w14'
      replace B_g0 := B_g0.below u_w14'
      replace or0 := or0.below u_w14'
      replace ox0 := ox0.below u_w14'
      replace ox1 := ox1.below u_w14'
      replace og0 := og0.below u_w14'
      have V_wq := V_w13'.trans (u_w14'.mono (V_w13').size)
      have S_wq := u_w14'.size
      clear u_w14' V_w13'
      generalize wq = w14' at *
      have V_w14' := V_wq
      clear V_wq
      have S_w14' := S_wq
      clear S_wq
      go_wp2_with fail
      refine (toMessageS_o _ _ _ l1 _ (z1.below V_w14') ht1).mono ?_
      rintro e w15' ⟨t1, tc1, F_t1, rfl, ot1, u_w15'⟩
      replace B_p0 := B_p0.below u_w15'
      replace B_r0 := B_r0.below u_w15'
      replace B_x0 := B_x0.below u_w15'
      replace B_g0 := B_g0.below u_w15'
      replace or0 := or0.below u_w15'
      replace ox0 := ox0.below u_w15'
      replace ox1 := ox1.below u_w15'
      replace og0 := og0.below u_w15'
      have V_w15' := V_w14'.trans (u_w15'.mono (V_w14').size)
      have S_w15' := u_w15'.size
      clear u_w15' V_w14'
      have Q_ot1 := Lib.hid ot1.feet
      go_wp2_with fail
      refine (eqMessageS_o _ _ _ _ _ _ _ _ ox1.rd ot1.rd).mono ?_
      rintro e w16' ⟨rfl, u_w16'⟩
      replace B_p0 := B_p0.below u_w16'
      replace B_r0 := B_r0.below u_w16'
      replace B_x0 := B_x0.below u_w16'
      replace B_g0 := B_g0.below u_w16'
      replace or0 := or0.below u_w16'
      replace ox0 := ox0.below u_w16'
      replace ox1 := ox1.below u_w16'
      replace og0 := og0.below u_w16'
      replace ot1 := ot1.below u_w16'
      have V_w16' := V_w15'.trans (u_w16'.mono (V_w15').size)
      have S_w16' := u_w16'.size
      clear u_w16' V_w15'
      clear ot1
      have e_x0_0 : w16'.cell? ⟨w8'.heap.size, 0, none⟩ = some (.int .i64 a0.P) := B_x0.cell 0
      have e_x0_1 : w16'.cell? ⟨w8'.heap.size, 1, none⟩ = some (.int .i64 a0.party) := B_x0.cell 1
      have e_x0_2 : w16'.cell? ⟨w8'.heap.size, 2, none⟩ = some (.int .i64 a0.input) := B_x0.cell 2
      have e_x0_3 : w16'.cell? ⟨w8'.heap.size, 3, none⟩ = some (.int .i64 a0.mask) := B_x0.cell 3
      have e_x0_4 : w16'.cell? ⟨w8'.heap.size, 4, none⟩ = some (.int .i64 a0.delta) := B_x0.cell 4
      have e_x0_5 : w16'.cell? ⟨w8'.heap.size, 5, none⟩ = some (.slice x0.sa x0.sn x0.sc) := B_x0.cell 5
      have e_x0_6 : w16'.cell? ⟨w8'.heap.size, 6, none⟩ = some (.slice x0.ka x0.kn x0.kc) := B_x0.cell 6
      have e_x0_7 : w16'.cell? ⟨w8'.heap.size, 7, none⟩ = some (.int .i64 a0.step) := B_x0.cell 7
      have e_x0_8 : w16'.cell? ⟨w8'.heap.size, 8, none⟩ = some (.slice x0.ha x0.hn x0.hc) := B_x0.cell 8
      have e_x0_9 : w16'.cell? ⟨w8'.heap.size, 9, none⟩ = some (.int .i64 a0.status) := B_x0.cell 9
      have e_x0_10 : w16'.cell? ⟨w8'.heap.size, 10, none⟩ = some (.int .i64 a0.out) := B_x0.cell 10
      go_wp2_with fail
      clear e_x0_0 e_x0_1 e_x0_2 e_x0_3 e_x0_4 e_x0_5 e_x0_6 e_x0_7 e_x0_8 e_x0_9 e_x0_10
      refine (markPlayer_o _ _ _ _ _ _ _ _ _ ox0 (by omega) (by omega)).mono ?_
      rintro e w17' ⟨ms_ox0, mk_ox0, mh_ox0, rfl, ox0, U_ox0, T_ox0, G⟩
      replace U_ox0 := Lib.hid U_ox0
      have hm_ox0 : cntP ms_ox0 mk_ox0 mh_ox0 ≤ 10000000 := by omega
      clear T_ox0
      replace or0 := or0.only G (fun k hk hk' => by have := Q_or0.out k hk; have := Q_ox0.out k hk'; omega)
      replace ox1 := ox1.only G (fun k hk hk' => by have := Q_ox1.out k hk; have := Q_ox0.out k hk'; omega)
      replace og0 := og0.only G (fun k hk hk' => by have := Q_og0.out k hk; have := Q_ox0.out k hk'; omega)
      replace B_p0 := B_p0.only G (fun hm => by have := Q_ox0.out _ hm; omega)
      replace B_r0 := B_r0.only G (fun hm => by have := Q_ox0.out _ hm; omega)
      replace B_x0 := B_x0.only G (fun hm => by have := Q_ox0.out _ hm; omega)
      replace B_g0 := B_g0.only G (fun hm => by have := Q_ox0.out _ hm; omega)
      have V_w17' := V_w16'.trans (G.below V_w16'.size (fun k hm => by have := V_w16'.size; have := Q_ox0.out k hm; omega))
      have S_w17' := G.size
      clear G V_w16'
      go_wp2_with fail
      refine (markMessageS_o _ _ _ _ _ _ _ _ ox1 (by omega) (by omega)).mono ?_
      rintro e w18' ⟨md_ox1, rfl, ox1, U_ox1, T_ox1, G⟩
      replace U_ox1 := Lib.hid U_ox1
      have hm_ox1 : cntM md_ox1 ≤ 10000000 := by omega
      clear T_ox1
      replace or0 := or0.only G (fun k hk hk' => by have := Q_or0.out k hk; have := Q_ox1.out k hk'; omega)
      replace ox0 := ox0.only G (fun k hk hk' => by have := Q_ox0.out k hk; have := Q_ox1.out k hk'; omega)
      replace og0 := og0.only G (fun k hk hk' => by have := Q_og0.out k hk; have := Q_ox1.out k hk'; omega)
      replace B_p0 := B_p0.only G (fun hm => by have := Q_ox1.out _ hm; omega)
      replace B_r0 := B_r0.only G (fun hm => by have := Q_ox1.out _ hm; omega)
      replace B_x0 := B_x0.only G (fun hm => by have := Q_ox1.out _ hm; omega)
      replace B_g0 := B_g0.only G (fun hm => by have := Q_ox1.out _ hm; omega)
      have V_w18' := V_w17'.trans (G.below V_w17'.size (fun k hm => by have := V_w17'.size; have := Q_ox1.out k hm; omega))
      have S_w18' := G.size
      clear G V_w17'
      have e_g0_0 : w18'.cell? ⟨w11'.heap.size, 0, none⟩ = some (.int .i64 d0_0.P) := B_g0.cell 0
      have e_g0_1 : w18'.cell? ⟨w11'.heap.size, 1, none⟩ = some (.int .i64 d0_0.party) := B_g0.cell 1
      have e_g0_2 : w18'.cell? ⟨w11'.heap.size, 2, none⟩ = some (.int .i64 d0_0.input) := B_g0.cell 2
      have e_g0_3 : w18'.cell? ⟨w11'.heap.size, 3, none⟩ = some (.int .i64 d0_0.mask) := B_g0.cell 3
      have e_g0_4 : w18'.cell? ⟨w11'.heap.size, 4, none⟩ = some (.int .i64 d0_0.delta) := B_g0.cell 4
      have e_g0_5 : w18'.cell? ⟨w11'.heap.size, 5, none⟩ = some (.slice g0.sa g0.sn g0.sc) := B_g0.cell 5
      have e_g0_6 : w18'.cell? ⟨w11'.heap.size, 6, none⟩ = some (.slice g0.ka g0.kn g0.kc) := B_g0.cell 6
      have e_g0_7 : w18'.cell? ⟨w11'.heap.size, 7, none⟩ = some (.int .i64 d0_0.step) := B_g0.cell 7
      have e_g0_8 : w18'.cell? ⟨w11'.heap.size, 8, none⟩ = some (.slice g0.ha g0.hn g0.hc) := B_g0.cell 8
      have e_g0_9 : w18'.cell? ⟨w11'.heap.size, 9, none⟩ = some (.int .i64 d0_0.status) := B_g0.cell 9
      have e_g0_10 : w18'.cell? ⟨w11'.heap.size, 10, none⟩ = some (.int .i64 d0_0.out) := B_g0.cell 10
      have e_r0_0 : w18'.cell? ⟨w6'.heap.size, 0, none⟩ = some (.int .i64 d0_0.P) := B_r0.cell 0
      have e_r0_1 : w18'.cell? ⟨w6'.heap.size, 1, none⟩ = some (.int .i64 d0_0.party) := B_r0.cell 1
      have e_r0_2 : w18'.cell? ⟨w6'.heap.size, 2, none⟩ = some (.int .i64 d0_0.input) := B_r0.cell 2
      have e_r0_3 : w18'.cell? ⟨w6'.heap.size, 3, none⟩ = some (.int .i64 d0_0.mask) := B_r0.cell 3
      have e_r0_4 : w18'.cell? ⟨w6'.heap.size, 4, none⟩ = some (.int .i64 d0_0.delta) := B_r0.cell 4
      have e_r0_5 : w18'.cell? ⟨w6'.heap.size, 5, none⟩ = some (.slice r0.sa r0.sn r0.sc) := B_r0.cell 5
      have e_r0_6 : w18'.cell? ⟨w6'.heap.size, 6, none⟩ = some (.slice r0.ka r0.kn r0.kc) := B_r0.cell 6
      have e_r0_7 : w18'.cell? ⟨w6'.heap.size, 7, none⟩ = some (.int .i64 d0_0.step) := B_r0.cell 7
      have e_r0_8 : w18'.cell? ⟨w6'.heap.size, 8, none⟩ = some (.slice r0.ha r0.hn r0.hc) := B_r0.cell 8
      have e_r0_9 : w18'.cell? ⟨w6'.heap.size, 9, none⟩ = some (.int .i64 d0_0.status) := B_r0.cell 9
      have e_r0_10 : w18'.cell? ⟨w6'.heap.size, 10, none⟩ = some (.int .i64 d0_0.out) := B_r0.cell 10
      go_wp2_with fail
      clear e_g0_0 e_g0_1 e_g0_2 e_g0_3 e_g0_4 e_g0_5 e_g0_6 e_g0_7 e_g0_8 e_g0_9 e_g0_10 e_r0_0 e_r0_1 e_r0_2 e_r0_3 e_r0_4 e_r0_5 e_r0_6 e_r0_7 e_r0_8 e_r0_9 e_r0_10
      refine (eqPlayer_o d0_0 _ _ _ og0.rd or0.rd).mono ?_
      rintro e w19' ⟨rfl, u_w19'⟩
      replace B_p0 := B_p0.below u_w19'
      replace B_r0 := B_r0.below u_w19'
      replace B_x0 := B_x0.below u_w19'
      replace B_g0 := B_g0.below u_w19'
      replace or0 := or0.below u_w19'
      replace ox0 := ox0.below u_w19'
      replace ox1 := ox1.below u_w19'
      replace og0 := og0.below u_w19'
      have V_w19' := V_w18'.trans (u_w19'.mono (V_w18').size)
      have S_w19' := u_w19'.size
      clear u_w19' V_w18'
      clear ox0
      clear ox1
      clear B_x0
      have e_g0_0 : w19'.cell? ⟨w11'.heap.size, 0, none⟩ = some (.int .i64 d0_0.P) := B_g0.cell 0
      have e_g0_1 : w19'.cell? ⟨w11'.heap.size, 1, none⟩ = some (.int .i64 d0_0.party) := B_g0.cell 1
      have e_g0_2 : w19'.cell? ⟨w11'.heap.size, 2, none⟩ = some (.int .i64 d0_0.input) := B_g0.cell 2
      have e_g0_3 : w19'.cell? ⟨w11'.heap.size, 3, none⟩ = some (.int .i64 d0_0.mask) := B_g0.cell 3
      have e_g0_4 : w19'.cell? ⟨w11'.heap.size, 4, none⟩ = some (.int .i64 d0_0.delta) := B_g0.cell 4
      have e_g0_5 : w19'.cell? ⟨w11'.heap.size, 5, none⟩ = some (.slice g0.sa g0.sn g0.sc) := B_g0.cell 5
      have e_g0_6 : w19'.cell? ⟨w11'.heap.size, 6, none⟩ = some (.slice g0.ka g0.kn g0.kc) := B_g0.cell 6
      have e_g0_7 : w19'.cell? ⟨w11'.heap.size, 7, none⟩ = some (.int .i64 d0_0.step) := B_g0.cell 7
      have e_g0_8 : w19'.cell? ⟨w11'.heap.size, 8, none⟩ = some (.slice g0.ha g0.hn g0.hc) := B_g0.cell 8
      have e_g0_9 : w19'.cell? ⟨w11'.heap.size, 9, none⟩ = some (.int .i64 d0_0.status) := B_g0.cell 9
      have e_g0_10 : w19'.cell? ⟨w11'.heap.size, 10, none⟩ = some (.int .i64 d0_0.out) := B_g0.cell 10
      go_wp2_with fail
      clear e_g0_0 e_g0_1 e_g0_2 e_g0_3 e_g0_4 e_g0_5 e_g0_6 e_g0_7 e_g0_8 e_g0_9 e_g0_10
      refine (markPlayer_o _ _ _ _ _ _ _ _ _ og0 (by omega) (by omega)).mono ?_
      rintro e w20' ⟨ms_og0, mk_og0, mh_og0, rfl, og0, U_og0, T_og0, G⟩
      replace U_og0 := Lib.hid U_og0
      have hm_og0 : cntP ms_og0 mk_og0 mh_og0 ≤ 10000000 := by omega
      clear T_og0
      replace or0 := or0.only G (fun k hk hk' => by have := Q_or0.out k hk; have := Q_og0.out k hk'; omega)
      replace B_p0 := B_p0.only G (fun hm => by have := Q_og0.out _ hm; omega)
      replace B_r0 := B_r0.only G (fun hm => by have := Q_og0.out _ hm; omega)
      replace B_g0 := B_g0.only G (fun hm => by have := Q_og0.out _ hm; omega)
      have V_w20' := V_w19'.trans (G.below V_w19'.size (fun k hm => by have := V_w19'.size; have := Q_og0.out k hm; omega))
      have S_w20' := G.size
      clear G V_w19'
      have e_g0_0 : w20'.cell? ⟨w11'.heap.size, 0, none⟩ = some (.int .i64 d0_0.P) := B_g0.cell 0
      have e_g0_1 : w20'.cell? ⟨w11'.heap.size, 1, none⟩ = some (.int .i64 d0_0.party) := B_g0.cell 1
      have e_g0_2 : w20'.cell? ⟨w11'.heap.size, 2, none⟩ = some (.int .i64 d0_0.input) := B_g0.cell 2
      have e_g0_3 : w20'.cell? ⟨w11'.heap.size, 3, none⟩ = some (.int .i64 d0_0.mask) := B_g0.cell 3
      have e_g0_4 : w20'.cell? ⟨w11'.heap.size, 4, none⟩ = some (.int .i64 d0_0.delta) := B_g0.cell 4
      have e_g0_5 : w20'.cell? ⟨w11'.heap.size, 5, none⟩ = some (.slice g0.sa g0.sn g0.sc) := B_g0.cell 5
      have e_g0_6 : w20'.cell? ⟨w11'.heap.size, 6, none⟩ = some (.slice g0.ka g0.kn g0.kc) := B_g0.cell 6
      have e_g0_7 : w20'.cell? ⟨w11'.heap.size, 7, none⟩ = some (.int .i64 d0_0.step) := B_g0.cell 7
      have e_g0_8 : w20'.cell? ⟨w11'.heap.size, 8, none⟩ = some (.slice g0.ha g0.hn g0.hc) := B_g0.cell 8
      have e_g0_9 : w20'.cell? ⟨w11'.heap.size, 9, none⟩ = some (.int .i64 d0_0.status) := B_g0.cell 9
      have e_g0_10 : w20'.cell? ⟨w11'.heap.size, 10, none⟩ = some (.int .i64 d0_0.out) := B_g0.cell 10
      go_wp2_with fail
      clear e_g0_0 e_g0_1 e_g0_2 e_g0_3 e_g0_4 e_g0_5 e_g0_6 e_g0_7 e_g0_8 e_g0_9 e_g0_10
      refine (heldPlayer_o _ _ _ _ _ _ _ og0.rd U_og0.out (by omega) (by omega)).mono ?_
      rintro e w21' ⟨rfl, u_w21'⟩
      replace B_p0 := B_p0.below u_w21'
      replace B_r0 := B_r0.below u_w21'
      replace B_g0 := B_g0.below u_w21'
      replace or0 := or0.below u_w21'
      replace og0 := og0.below u_w21'
      have V_w21' := V_w20'.trans (u_w21'.mono (V_w20').size)
      have S_w21' := u_w21'.size
      clear u_w21' V_w20'
      have e_p0_0 : w21'.cell? ⟨w.heap.size, 0, none⟩ = some (.int .i64 a0.P) := B_p0.cell 0
      have e_p0_1 : w21'.cell? ⟨w.heap.size, 1, none⟩ = some (.int .i64 a0.party) := B_p0.cell 1
      have e_p0_2 : w21'.cell? ⟨w.heap.size, 2, none⟩ = some (.int .i64 a0.input) := B_p0.cell 2
      have e_p0_3 : w21'.cell? ⟨w.heap.size, 3, none⟩ = some (.int .i64 a0.mask) := B_p0.cell 3
      have e_p0_4 : w21'.cell? ⟨w.heap.size, 4, none⟩ = some (.int .i64 a0.delta) := B_p0.cell 4
      have e_p0_5 : w21'.cell? ⟨w.heap.size, 5, none⟩ = some (.slice p0.sa p0.sn p0.sc) := B_p0.cell 5
      have e_p0_6 : w21'.cell? ⟨w.heap.size, 6, none⟩ = some (.slice p0.ka p0.kn p0.kc) := B_p0.cell 6
      have e_p0_7 : w21'.cell? ⟨w.heap.size, 7, none⟩ = some (.int .i64 a0.step) := B_p0.cell 7
      have e_p0_8 : w21'.cell? ⟨w.heap.size, 8, none⟩ = some (.slice p0.ha p0.hn p0.hc) := B_p0.cell 8
      have e_p0_9 : w21'.cell? ⟨w.heap.size, 9, none⟩ = some (.int .i64 a0.status) := B_p0.cell 9
      have e_p0_10 : w21'.cell? ⟨w.heap.size, 10, none⟩ = some (.int .i64 a0.out) := B_p0.cell 10
      go_wp2_with fail
      clear e_p0_0 e_p0_1 e_p0_2 e_p0_3 e_p0_4 e_p0_5 e_p0_6 e_p0_7 e_p0_8 e_p0_9 e_p0_10
      refine (toPlayer_o a0 p0 _ (z0.below V_w21') ht0).mono ?_
      rintro e w22' ⟨x0, F_x0, rfl, ox0, u_w22'⟩
      replace B_p0 := B_p0.below u_w22'
      replace B_r0 := B_r0.below u_w22'
      replace B_g0 := B_g0.below u_w22'
      replace or0 := or0.below u_w22'
      replace og0 := og0.below u_w22'
      have V_w22' := V_w21'.trans (u_w22'.mono (V_w21').size)
      have S_w22' := u_w22'.size
      clear u_w22' V_w21'
      have Q_ox0 := Lib.hid ox0.feet
      go_wp2_with fail
      refine (toMessageS_o _ _ _ l1 _ (z1.below V_w22') ht1).mono ?_
      rintro e w23' ⟨x1, xc1, F_x1, rfl, ox1, u_w23'⟩
      replace B_p0 := B_p0.below u_w23'
      replace B_r0 := B_r0.below u_w23'
      replace B_g0 := B_g0.below u_w23'
      replace or0 := or0.below u_w23'
      replace og0 := og0.below u_w23'
      replace ox0 := ox0.below u_w23'
      have V_w23' := V_w22'.trans (u_w23'.mono (V_w22').size)
      have S_w23' := u_w23'.size
      clear u_w23' V_w22'
      have Q_ox1 := Lib.hid ox1.feet
      go_wp2_with fail
      refine (CI.out _ _ _ _ _ ox0.rd ox1.rd (LX.out.below V_w23')).mono ?_
      rintro e w24' ⟨h0, F_h0, rfl, oh0, u_w24'⟩
      replace B_p0 := B_p0.below u_w24'
      replace B_r0 := B_r0.below u_w24'
      replace B_g0 := B_g0.below u_w24'
      replace or0 := or0.below u_w24'
      replace og0 := og0.below u_w24'
      replace ox0 := ox0.below u_w24'
      replace ox1 := ox1.below u_w24'
      have V_w24' := V_w23'.trans (u_w24'.mono (V_w23').size)
      have S_w24' := u_w24'.size
      clear u_w24' V_w23'
      have Q_oh0 := Lib.hid oh0.feet
      clear ox0
      clear ox1
      have e_r0_0 : w24'.cell? ⟨w6'.heap.size, 0, none⟩ = some (.int .i64 d0_0.P) := B_r0.cell 0
      have e_r0_0_0 : (w24'.alloc (.cells #[.int .i64 d0_0.P, .int .i64 d0_0.party, .int .i64 d0_0.input, .int .i64 d0_0.mask, .int .i64 d0_0.delta, .slice h0.sa h0.sn h0.sc, .slice h0.ka h0.kn h0.kc, .int .i64 d0_0.step, .slice h0.ha h0.hn h0.hc, .int .i64 d0_0.status, .int .i64 d0_0.out] 31)).cell? ⟨w6'.heap.size, 0, none⟩ = some (.int .i64 d0_0.P) := keepA _ e_r0_0
      have e_r0_1 : w24'.cell? ⟨w6'.heap.size, 1, none⟩ = some (.int .i64 d0_0.party) := B_r0.cell 1
      have e_r0_1_0 : (w24'.alloc (.cells #[.int .i64 d0_0.P, .int .i64 d0_0.party, .int .i64 d0_0.input, .int .i64 d0_0.mask, .int .i64 d0_0.delta, .slice h0.sa h0.sn h0.sc, .slice h0.ka h0.kn h0.kc, .int .i64 d0_0.step, .slice h0.ha h0.hn h0.hc, .int .i64 d0_0.status, .int .i64 d0_0.out] 31)).cell? ⟨w6'.heap.size, 1, none⟩ = some (.int .i64 d0_0.party) := keepA _ e_r0_1
      have e_r0_2 : w24'.cell? ⟨w6'.heap.size, 2, none⟩ = some (.int .i64 d0_0.input) := B_r0.cell 2
      have e_r0_2_0 : (w24'.alloc (.cells #[.int .i64 d0_0.P, .int .i64 d0_0.party, .int .i64 d0_0.input, .int .i64 d0_0.mask, .int .i64 d0_0.delta, .slice h0.sa h0.sn h0.sc, .slice h0.ka h0.kn h0.kc, .int .i64 d0_0.step, .slice h0.ha h0.hn h0.hc, .int .i64 d0_0.status, .int .i64 d0_0.out] 31)).cell? ⟨w6'.heap.size, 2, none⟩ = some (.int .i64 d0_0.input) := keepA _ e_r0_2
      have e_r0_3 : w24'.cell? ⟨w6'.heap.size, 3, none⟩ = some (.int .i64 d0_0.mask) := B_r0.cell 3
      have e_r0_3_0 : (w24'.alloc (.cells #[.int .i64 d0_0.P, .int .i64 d0_0.party, .int .i64 d0_0.input, .int .i64 d0_0.mask, .int .i64 d0_0.delta, .slice h0.sa h0.sn h0.sc, .slice h0.ka h0.kn h0.kc, .int .i64 d0_0.step, .slice h0.ha h0.hn h0.hc, .int .i64 d0_0.status, .int .i64 d0_0.out] 31)).cell? ⟨w6'.heap.size, 3, none⟩ = some (.int .i64 d0_0.mask) := keepA _ e_r0_3
      have e_r0_4 : w24'.cell? ⟨w6'.heap.size, 4, none⟩ = some (.int .i64 d0_0.delta) := B_r0.cell 4
      have e_r0_4_0 : (w24'.alloc (.cells #[.int .i64 d0_0.P, .int .i64 d0_0.party, .int .i64 d0_0.input, .int .i64 d0_0.mask, .int .i64 d0_0.delta, .slice h0.sa h0.sn h0.sc, .slice h0.ka h0.kn h0.kc, .int .i64 d0_0.step, .slice h0.ha h0.hn h0.hc, .int .i64 d0_0.status, .int .i64 d0_0.out] 31)).cell? ⟨w6'.heap.size, 4, none⟩ = some (.int .i64 d0_0.delta) := keepA _ e_r0_4
      have e_r0_5 : w24'.cell? ⟨w6'.heap.size, 5, none⟩ = some (.slice r0.sa r0.sn r0.sc) := B_r0.cell 5
      have e_r0_5_0 : (w24'.alloc (.cells #[.int .i64 d0_0.P, .int .i64 d0_0.party, .int .i64 d0_0.input, .int .i64 d0_0.mask, .int .i64 d0_0.delta, .slice h0.sa h0.sn h0.sc, .slice h0.ka h0.kn h0.kc, .int .i64 d0_0.step, .slice h0.ha h0.hn h0.hc, .int .i64 d0_0.status, .int .i64 d0_0.out] 31)).cell? ⟨w6'.heap.size, 5, none⟩ = some (.slice r0.sa r0.sn r0.sc) := keepA _ e_r0_5
      have e_r0_6 : w24'.cell? ⟨w6'.heap.size, 6, none⟩ = some (.slice r0.ka r0.kn r0.kc) := B_r0.cell 6
      have e_r0_6_0 : (w24'.alloc (.cells #[.int .i64 d0_0.P, .int .i64 d0_0.party, .int .i64 d0_0.input, .int .i64 d0_0.mask, .int .i64 d0_0.delta, .slice h0.sa h0.sn h0.sc, .slice h0.ka h0.kn h0.kc, .int .i64 d0_0.step, .slice h0.ha h0.hn h0.hc, .int .i64 d0_0.status, .int .i64 d0_0.out] 31)).cell? ⟨w6'.heap.size, 6, none⟩ = some (.slice r0.ka r0.kn r0.kc) := keepA _ e_r0_6
      have e_r0_7 : w24'.cell? ⟨w6'.heap.size, 7, none⟩ = some (.int .i64 d0_0.step) := B_r0.cell 7
      have e_r0_7_0 : (w24'.alloc (.cells #[.int .i64 d0_0.P, .int .i64 d0_0.party, .int .i64 d0_0.input, .int .i64 d0_0.mask, .int .i64 d0_0.delta, .slice h0.sa h0.sn h0.sc, .slice h0.ka h0.kn h0.kc, .int .i64 d0_0.step, .slice h0.ha h0.hn h0.hc, .int .i64 d0_0.status, .int .i64 d0_0.out] 31)).cell? ⟨w6'.heap.size, 7, none⟩ = some (.int .i64 d0_0.step) := keepA _ e_r0_7
      have e_r0_8 : w24'.cell? ⟨w6'.heap.size, 8, none⟩ = some (.slice r0.ha r0.hn r0.hc) := B_r0.cell 8
      have e_r0_8_0 : (w24'.alloc (.cells #[.int .i64 d0_0.P, .int .i64 d0_0.party, .int .i64 d0_0.input, .int .i64 d0_0.mask, .int .i64 d0_0.delta, .slice h0.sa h0.sn h0.sc, .slice h0.ka h0.kn h0.kc, .int .i64 d0_0.step, .slice h0.ha h0.hn h0.hc, .int .i64 d0_0.status, .int .i64 d0_0.out] 31)).cell? ⟨w6'.heap.size, 8, none⟩ = some (.slice r0.ha r0.hn r0.hc) := keepA _ e_r0_8
      have e_r0_9 : w24'.cell? ⟨w6'.heap.size, 9, none⟩ = some (.int .i64 d0_0.status) := B_r0.cell 9
      have e_r0_9_0 : (w24'.alloc (.cells #[.int .i64 d0_0.P, .int .i64 d0_0.party, .int .i64 d0_0.input, .int .i64 d0_0.mask, .int .i64 d0_0.delta, .slice h0.sa h0.sn h0.sc, .slice h0.ka h0.kn h0.kc, .int .i64 d0_0.step, .slice h0.ha h0.hn h0.hc, .int .i64 d0_0.status, .int .i64 d0_0.out] 31)).cell? ⟨w6'.heap.size, 9, none⟩ = some (.int .i64 d0_0.status) := keepA _ e_r0_9
      have e_r0_10 : w24'.cell? ⟨w6'.heap.size, 10, none⟩ = some (.int .i64 d0_0.out) := B_r0.cell 10
      have e_r0_10_0 : (w24'.alloc (.cells #[.int .i64 d0_0.P, .int .i64 d0_0.party, .int .i64 d0_0.input, .int .i64 d0_0.mask, .int .i64 d0_0.delta, .slice h0.sa h0.sn h0.sc, .slice h0.ka h0.kn h0.kc, .int .i64 d0_0.step, .slice h0.ha h0.hn h0.hc, .int .i64 d0_0.status, .int .i64 d0_0.out] 31)).cell? ⟨w6'.heap.size, 10, none⟩ = some (.int .i64 d0_0.out) := keepA _ e_r0_10
      go_wp2_with fail
      clear e_r0_0 e_r0_0_0 e_r0_1 e_r0_1_0 e_r0_2 e_r0_2_0 e_r0_3 e_r0_3_0 e_r0_4 e_r0_4_0 e_r0_5 e_r0_5_0 e_r0_6 e_r0_6_0 e_r0_7 e_r0_7_0 e_r0_8 e_r0_8_0 e_r0_9 e_r0_9_0 e_r0_10 e_r0_10_0
      have V_w25' : Below w.heap.size w (w24'.alloc (.cells #[.int .i64 d0_0.P, .int .i64 d0_0.party, .int .i64 d0_0.input, .int .i64 d0_0.mask, .int .i64 d0_0.delta, .slice h0.sa h0.sn h0.sc, .slice h0.ka h0.kn h0.kc, .int .i64 d0_0.step, .slice h0.ha h0.hn h0.hc, .int .i64 d0_0.status, .int .i64 d0_0.out] 31)) := ((V_w24').alloc (by have := (V_w24').size; first | exact this | (simp; omega) | simp) _)
      replace B_p0 := B_p0.alloc (.cells #[.int .i64 d0_0.P, .int .i64 d0_0.party, .int .i64 d0_0.input, .int .i64 d0_0.mask, .int .i64 d0_0.delta, .slice h0.sa h0.sn h0.sc, .slice h0.ka h0.kn h0.kc, .int .i64 d0_0.step, .slice h0.ha h0.hn h0.hc, .int .i64 d0_0.status, .int .i64 d0_0.out] 31)
      replace B_r0 := B_r0.alloc (.cells #[.int .i64 d0_0.P, .int .i64 d0_0.party, .int .i64 d0_0.input, .int .i64 d0_0.mask, .int .i64 d0_0.delta, .slice h0.sa h0.sn h0.sc, .slice h0.ka h0.kn h0.kc, .int .i64 d0_0.step, .slice h0.ha h0.hn h0.hc, .int .i64 d0_0.status, .int .i64 d0_0.out] 31)
      replace B_g0 := B_g0.alloc (.cells #[.int .i64 d0_0.P, .int .i64 d0_0.party, .int .i64 d0_0.input, .int .i64 d0_0.mask, .int .i64 d0_0.delta, .slice h0.sa h0.sn h0.sc, .slice h0.ka h0.kn h0.kc, .int .i64 d0_0.step, .slice h0.ha h0.hn h0.hc, .int .i64 d0_0.status, .int .i64 d0_0.out] 31)
      replace or0 := or0.alloc (.cells #[.int .i64 d0_0.P, .int .i64 d0_0.party, .int .i64 d0_0.input, .int .i64 d0_0.mask, .int .i64 d0_0.delta, .slice h0.sa h0.sn h0.sc, .slice h0.ka h0.kn h0.kc, .int .i64 d0_0.step, .slice h0.ha h0.hn h0.hc, .int .i64 d0_0.status, .int .i64 d0_0.out] 31)
      replace og0 := og0.alloc (.cells #[.int .i64 d0_0.P, .int .i64 d0_0.party, .int .i64 d0_0.input, .int .i64 d0_0.mask, .int .i64 d0_0.delta, .slice h0.sa h0.sn h0.sc, .slice h0.ka h0.kn h0.kc, .int .i64 d0_0.step, .slice h0.ha h0.hn h0.hc, .int .i64 d0_0.status, .int .i64 d0_0.out] 31)
      replace oh0 := oh0.alloc (.cells #[.int .i64 d0_0.P, .int .i64 d0_0.party, .int .i64 d0_0.input, .int .i64 d0_0.mask, .int .i64 d0_0.delta, .slice h0.sa h0.sn h0.sc, .slice h0.ka h0.kn h0.kc, .int .i64 d0_0.step, .slice h0.ha h0.hn h0.hc, .int .i64 d0_0.status, .int .i64 d0_0.out] 31)
      have B_h0 : Blk (w24'.alloc (.cells #[.int .i64 d0_0.P, .int .i64 d0_0.party, .int .i64 d0_0.input, .int .i64 d0_0.mask, .int .i64 d0_0.delta, .slice h0.sa h0.sn h0.sc, .slice h0.ka h0.kn h0.kc, .int .i64 d0_0.step, .slice h0.ha h0.hn h0.hc, .int .i64 d0_0.status, .int .i64 d0_0.out] 31)) (w24'.heap.size) 31 #[.int .i64 d0_0.P, .int .i64 d0_0.party, .int .i64 d0_0.input, .int .i64 d0_0.mask, .int .i64 d0_0.delta, .slice h0.sa h0.sn h0.sc, .slice h0.ka h0.kn h0.kc, .int .i64 d0_0.step, .slice h0.ha h0.hn h0.hc, .int .i64 d0_0.status, .int .i64 d0_0.out] := Blk.new w24' 31 #[.int .i64 d0_0.P, .int .i64 d0_0.party, .int .i64 d0_0.input, .int .i64 d0_0.mask, .int .i64 d0_0.delta, .slice h0.sa h0.sn h0.sc, .slice h0.ka h0.kn h0.kc, .int .i64 d0_0.step, .slice h0.ha h0.hn h0.hc, .int .i64 d0_0.status, .int .i64 d0_0.out]
      have S_w25' : w24'.heap.size + 1 ≤ (w24'.alloc (.cells #[.int .i64 d0_0.P, .int .i64 d0_0.party, .int .i64 d0_0.input, .int .i64 d0_0.mask, .int .i64 d0_0.delta, .slice h0.sa h0.sn h0.sc, .slice h0.ka h0.kn h0.kc, .int .i64 d0_0.step, .slice h0.ha h0.hn h0.hc, .int .i64 d0_0.status, .int .i64 d0_0.out] 31)).heap.size := by simp
      generalize (w24'.alloc (.cells #[.int .i64 d0_0.P, .int .i64 d0_0.party, .int .i64 d0_0.input, .int .i64 d0_0.mask, .int .i64 d0_0.delta, .slice h0.sa h0.sn h0.sc, .slice h0.ka h0.kn h0.kc, .int .i64 d0_0.step, .slice h0.ha h0.hn h0.hc, .int .i64 d0_0.status, .int .i64 d0_0.out] 31)) = w25' at *
      clear V_w24'
      refine (eqPlayer_o d0_0 _ _ _ oh0.rd or0.rd).mono ?_
      rintro e w26' ⟨rfl, u_w26'⟩
      replace B_p0 := B_p0.below u_w26'
      replace B_r0 := B_r0.below u_w26'
      replace B_g0 := B_g0.below u_w26'
      replace B_h0 := B_h0.below u_w26'
      replace or0 := or0.below u_w26'
      replace og0 := og0.below u_w26'
      replace oh0 := oh0.below u_w26'
      have V_w26' := V_w25'.trans (u_w26'.mono (V_w25').size)
      have S_w26' := u_w26'.size
      clear u_w26' V_w25'
      have e_g0_0 : w26'.cell? ⟨w11'.heap.size, 0, none⟩ = some (.int .i64 d0_0.P) := B_g0.cell 0
      have e_g0_1 : w26'.cell? ⟨w11'.heap.size, 1, none⟩ = some (.int .i64 d0_0.party) := B_g0.cell 1
      have e_g0_2 : w26'.cell? ⟨w11'.heap.size, 2, none⟩ = some (.int .i64 d0_0.input) := B_g0.cell 2
      have e_g0_3 : w26'.cell? ⟨w11'.heap.size, 3, none⟩ = some (.int .i64 d0_0.mask) := B_g0.cell 3
      have e_g0_4 : w26'.cell? ⟨w11'.heap.size, 4, none⟩ = some (.int .i64 d0_0.delta) := B_g0.cell 4
      have e_g0_5 : w26'.cell? ⟨w11'.heap.size, 5, none⟩ = some (.slice g0.sa g0.sn g0.sc) := B_g0.cell 5
      have e_g0_6 : w26'.cell? ⟨w11'.heap.size, 6, none⟩ = some (.slice g0.ka g0.kn g0.kc) := B_g0.cell 6
      have e_g0_7 : w26'.cell? ⟨w11'.heap.size, 7, none⟩ = some (.int .i64 d0_0.step) := B_g0.cell 7
      have e_g0_8 : w26'.cell? ⟨w11'.heap.size, 8, none⟩ = some (.slice g0.ha g0.hn g0.hc) := B_g0.cell 8
      have e_g0_9 : w26'.cell? ⟨w11'.heap.size, 9, none⟩ = some (.int .i64 d0_0.status) := B_g0.cell 9
      have e_g0_10 : w26'.cell? ⟨w11'.heap.size, 10, none⟩ = some (.int .i64 d0_0.out) := B_g0.cell 10
      go_wp2_with fail
      clear e_g0_0 e_g0_1 e_g0_2 e_g0_3 e_g0_4 e_g0_5 e_g0_6 e_g0_7 e_g0_8 e_g0_9 e_g0_10
      refine (heldPlayer_o _ _ _ _ _ _ _ og0.rd U_og0.out (by omega) (by omega)).mono ?_
      rintro e w27' ⟨rfl, u_w27'⟩
      replace B_p0 := B_p0.below u_w27'
      replace B_r0 := B_r0.below u_w27'
      replace B_g0 := B_g0.below u_w27'
      replace B_h0 := B_h0.below u_w27'
      replace or0 := or0.below u_w27'
      replace og0 := og0.below u_w27'
      replace oh0 := oh0.below u_w27'
      have V_w27' := V_w26'.trans (u_w27'.mono (V_w26').size)
      have S_w27' := u_w27'.size
      clear u_w27' V_w26'
      go_wp2
      go_ret
      exact ⟨rfl, V_w27'⟩
    · skip
      go_enter Tryd.func10, Tryd.ntmps10
      go_wp2_with fail
      have V_w28' : Below w.heap.size w (w.alloc (.cells #[.int .i64 a0.P, .int .i64 a0.party, .int .i64 a0.input, .int .i64 a0.mask, .int .i64 a0.delta, .slice p0.sa p0.sn p0.sc, .slice p0.ka p0.kn p0.kc, .int .i64 a0.step, .slice p0.ha p0.hn p0.hc, .int .i64 a0.status, .int .i64 a0.out] 26)) := (((Below.refl w.heap.size w)).alloc (by have := ((Below.refl w.heap.size w)).size; first | exact this | (simp; omega) | simp) _)
      have B_p0 : Blk (w.alloc (.cells #[.int .i64 a0.P, .int .i64 a0.party, .int .i64 a0.input, .int .i64 a0.mask, .int .i64 a0.delta, .slice p0.sa p0.sn p0.sc, .slice p0.ka p0.kn p0.kc, .int .i64 a0.step, .slice p0.ha p0.hn p0.hc, .int .i64 a0.status, .int .i64 a0.out] 26)) (w.heap.size) 26 #[.int .i64 a0.P, .int .i64 a0.party, .int .i64 a0.input, .int .i64 a0.mask, .int .i64 a0.delta, .slice p0.sa p0.sn p0.sc, .slice p0.ka p0.kn p0.kc, .int .i64 a0.step, .slice p0.ha p0.hn p0.hc, .int .i64 a0.status, .int .i64 a0.out] := Blk.new w 26 #[.int .i64 a0.P, .int .i64 a0.party, .int .i64 a0.input, .int .i64 a0.mask, .int .i64 a0.delta, .slice p0.sa p0.sn p0.sc, .slice p0.ka p0.kn p0.kc, .int .i64 a0.step, .slice p0.ha p0.hn p0.hc, .int .i64 a0.status, .int .i64 a0.out]
      have S_w28' : w.heap.size + 1 ≤ (w.alloc (.cells #[.int .i64 a0.P, .int .i64 a0.party, .int .i64 a0.input, .int .i64 a0.mask, .int .i64 a0.delta, .slice p0.sa p0.sn p0.sc, .slice p0.ka p0.kn p0.kc, .int .i64 a0.step, .slice p0.ha p0.hn p0.hc, .int .i64 a0.status, .int .i64 a0.out] 26)).heap.size := by simp
      generalize (w.alloc (.cells #[.int .i64 a0.P, .int .i64 a0.party, .int .i64 a0.input, .int .i64 a0.mask, .int .i64 a0.delta, .slice p0.sa p0.sn p0.sc, .slice p0.ka p0.kn p0.kc, .int .i64 a0.step, .slice p0.ha p0.hn p0.hc, .int .i64 a0.status, .int .i64 a0.out] 26)) = w28' at *
      refine (szPlayer_o_yes a0 p0 (1048576) _ (z0.below V_w28') (by omega) (by omega)).mono ?_
      rintro e w29' ⟨rfl, u_w29'⟩
      replace B_p0 := B_p0.below u_w29'
      have V_w29' := V_w28'.trans (u_w29'.mono (V_w28').size)
      have S_w29' := u_w29'.size
      clear u_w29' V_w28'
      go_wp2_with fail
      refine (szMessageS_o_no _ _ _ l1 (1048576 - (szP p0 a0.shares a0.keys a0.heard : Int)) _ (z1.below V_w29') (by omega) (by omega) (by omega)).mono ?_
      rintro e w30' ⟨rfl, u_w30'⟩
      replace B_p0 := B_p0.below u_w30'
      have V_w30' := V_w29'.trans (u_w30'.mono (V_w29').size)
      have S_w30' := u_w30'.size
      clear u_w30' V_w29'
      go_wp2
      go_ret
      exact ⟨rfl, V_w30'⟩
  · skip
    go_enter Tryd.func10, Tryd.ntmps10
    go_wp2_with fail
    have V_w31' : Below w.heap.size w (w.alloc (.cells #[.int .i64 a0.P, .int .i64 a0.party, .int .i64 a0.input, .int .i64 a0.mask, .int .i64 a0.delta, .slice p0.sa p0.sn p0.sc, .slice p0.ka p0.kn p0.kc, .int .i64 a0.step, .slice p0.ha p0.hn p0.hc, .int .i64 a0.status, .int .i64 a0.out] 26)) := (((Below.refl w.heap.size w)).alloc (by have := ((Below.refl w.heap.size w)).size; first | exact this | (simp; omega) | simp) _)
    have B_p0 : Blk (w.alloc (.cells #[.int .i64 a0.P, .int .i64 a0.party, .int .i64 a0.input, .int .i64 a0.mask, .int .i64 a0.delta, .slice p0.sa p0.sn p0.sc, .slice p0.ka p0.kn p0.kc, .int .i64 a0.step, .slice p0.ha p0.hn p0.hc, .int .i64 a0.status, .int .i64 a0.out] 26)) (w.heap.size) 26 #[.int .i64 a0.P, .int .i64 a0.party, .int .i64 a0.input, .int .i64 a0.mask, .int .i64 a0.delta, .slice p0.sa p0.sn p0.sc, .slice p0.ka p0.kn p0.kc, .int .i64 a0.step, .slice p0.ha p0.hn p0.hc, .int .i64 a0.status, .int .i64 a0.out] := Blk.new w 26 #[.int .i64 a0.P, .int .i64 a0.party, .int .i64 a0.input, .int .i64 a0.mask, .int .i64 a0.delta, .slice p0.sa p0.sn p0.sc, .slice p0.ka p0.kn p0.kc, .int .i64 a0.step, .slice p0.ha p0.hn p0.hc, .int .i64 a0.status, .int .i64 a0.out]
    have S_w31' : w.heap.size + 1 ≤ (w.alloc (.cells #[.int .i64 a0.P, .int .i64 a0.party, .int .i64 a0.input, .int .i64 a0.mask, .int .i64 a0.delta, .slice p0.sa p0.sn p0.sc, .slice p0.ka p0.kn p0.kc, .int .i64 a0.step, .slice p0.ha p0.hn p0.hc, .int .i64 a0.status, .int .i64 a0.out] 26)).heap.size := by simp
    generalize (w.alloc (.cells #[.int .i64 a0.P, .int .i64 a0.party, .int .i64 a0.input, .int .i64 a0.mask, .int .i64 a0.delta, .slice p0.sa p0.sn p0.sc, .slice p0.ka p0.kn p0.kc, .int .i64 a0.step, .slice p0.ha p0.hn p0.hc, .int .i64 a0.status, .int .i64 a0.out] 26)) = w31' at *
    refine (szPlayer_o_no a0 p0 (1048576) _ (z0.below V_w31') (by omega) (by omega) (by omega)).mono ?_
    rintro e w32' ⟨rfl, u_w32'⟩
    replace B_p0 := B_p0.below u_w32'
    have V_w32' := V_w31'.trans (u_w32'.mono (V_w31').size)
    have S_w32' := u_w32'.size
    clear u_w32' V_w31'
    go_wp2
    go_ret
    exact ⟨rfl, V_w32'⟩
end Go.Proofs.YtlmdckcohoddnaaDoor
namespace Go.Proofs.YtlmdckcohoddnaaDoor
open Go.ChangeShapes Go.WideShapes Go.Deep Go.RowKit
section
variable {H : Type} {enc : TypeId × Value → H} {P : Program} {w : World} {base : Nat} {spare : Nat → Bool} {held : Bool}
theorem open_struct {r : Reach} {b0 : Nat} {t : TypeId} {fs : Array Field} {v : Value} {d : DataW H} {p : List MemPlace} (hs : P.underlying t = some (.struct fs)) (hone : oneCellFields P fs = true) (hC : P.cellsOf t = fs.size)
    (hv : Value.okWide P w r b0 t v) (h : DataW.Trod enc P w base spare held t v d p) :
    ∃ (vs : List Value) (n : Nat), v = .agg vs.toArray ∧ vs.length = fs.size ∧ ∀ (j : Nat) (f : Field), fs[j]? = some f → ∃ u y, vs[j]? = some u ∧ DataW.trod enc P w base spare held n f.type [u] = some y := by
  obtain ⟨cs, rfl, hsz⟩ := okWide_struct hs hv
  obtain ⟨fuel, hf⟩ := h
  obtain ⟨ys, n, _, _, _, hyl, hg⟩ := DataW.trod_struct hs hf
  refine ⟨cs.toList, n, rfl, by simp [hsz, hC], fun j f hj => ?_⟩
  obtain ⟨ho, hk⟩ := hone_of hone j f hj
  have hjl : j < fs.size := (Array.getElem?_eq_some_iff.1 hj).1
  have hcl : j < cs.toList.length := by simp [hsz, hC, hjl]
  have h1 := hg j f hj
  rw [ho, hk] at h1
  have hone' : ((Value.agg cs).cells.toList.drop j).take 1 = [cs.toList[j]] := by
    show (cs.toList.drop j).take 1 = _
    rw [List.drop_eq_getElem_cons hcl]
    rfl
  rw [hone'] at h1
  have hys : ys[j]? = some (ys[j]'(by omega)) := List.getElem?_eq_getElem (by omega)
  exact ⟨_, _, List.getElem?_eq_getElem hcl, h1.trans hys⟩
theorem field_int {t : TypeId} {k : IntKind} {n : Nat} {u : Value} {y : DataW H × List MemPlace} (ht : P.underlying t = some (.int k)) (h : DataW.trod enc P w base spare held n t [u] = some y) : ∃ x, u = .int k x ∧ (Lit.int k x).wf = true := by
  obtain ⟨x, h1, _, h3⟩ := DataW.trod_int ht h
  simp at h1
  exact ⟨x, h1, h3⟩
theorem field_ints {t e : TypeId} {n : Nat} {u : Value} {y : DataW H × List MemPlace} (ht : P.underlying t = some (.slice e)) (he : P.underlying e = some (.int .i64)) (hc : P.cellsOf e = 1) (h : DataW.trod enc P w base (fun _ => true) held n t [u] = some y) :
    ∃ a m c l, u = .slice a m c ∧ Ints w a m c l ∧ Wf l := by
  rcases open_ints ht he hc h with ⟨hcs, _⟩ | ⟨x, l, c, zs, hcs, _, hl, hm, hz, _, hcell, hwz⟩
  · simp at hcs
    exact ⟨none, 0, 0, [], hcs, Ints.nil0 w, fun x hx => by cases hx⟩
  · simp at hcs
    exact ⟨some x, l, c, zs.take l, hcs, Ints.of_row hl hm (by simpa using hz) hcell, fun x hx => wf_range (hwz x (List.mem_of_mem_take hx))⟩
/-- The number in a cell. -/
def cellI (w : World) (a : Addr) (q : Nat) : Int := match w.cell? (a.add q) with
  | some (.int .i64 x) => x
  | _ => 0
theorem field_flat {t e : TypeId} {fs : Array Field} {n : Nat} {u : Value} {y : DataW H × List MemPlace} (ht : P.underlying t = some (.slice e)) (he : P.underlying e = some (.struct fs)) (hone : oneCellFields P fs = true) (hC : P.cellsOf e = fs.size)
    (hpos : 0 < fs.size) (hint : ∀ (j : Nat) (f : Field), fs[j]? = some f → P.underlying f.type = some (.int .i64)) (h : DataW.trod enc P w base (fun _ => true) held n t [u] = some y) :
    ∃ a m c l, u = .slice a m c ∧ Flat fs.size w a m c l ∧ Wf l := by
  rcases open_slice ht h with ⟨hcs, _⟩ | ⟨x, l, c, m, n1, _, _, hcs, _, hl, hm, hmm, _, hi⟩
  · simp at hcs
    exact ⟨none, 0, 0, [], hcs, ⟨by simp, Nat.le_refl _, Nat.zero_le _, fun _ => rfl, 0, 0, fun h => absurd h (by omega), fun i u hu => by simp at hu⟩, fun x hx => by cases hx⟩
  · simp at hcs hmm
    subst hmm
    have each : ∀ q, q < l * fs.size → w.cell? (x.add q) = some (.int .i64 (cellI w x q)) ∧ (Lit.int .i64 (cellI w x q)).wf = true := fun q hq => by
      have hq1 : q / fs.size < m := Nat.lt_of_lt_of_le (Nat.div_lt_of_lt_mul (by rw [Nat.mul_comm]; exact hq)) hl
      have hq2 : q % fs.size < fs.size := Nat.mod_lt _ hpos
      have hfq := Array.getElem?_eq_getElem hq2
      obtain ⟨es, hes, hte⟩ := hi _ hq1
      obtain ⟨_, hel, hea⟩ := World.cells?_some hes
      obtain ⟨gs, _, _, _, _, hgl, hg⟩ := DataW.trod_struct he hte
      obtain ⟨ho, hk⟩ := hone_of hone _ _ hfq
      have hin : q % fs.size < es.length := by rw [hel, hC]; exact hq2
      have hy := hg _ _ hfq
      rw [ho, hk, List.drop_eq_getElem_cons hin, List.take_succ_cons, List.take_zero, List.getElem?_eq_getElem (show q % fs.size < gs.length by omega)] at hy
      have hc := hea _ (show q % fs.size < P.cellsOf e by rw [hC]; exact hq2)
      rw [Go.Deep.add_add, hC, Nat.div_add_mod', List.getElem?_eq_getElem hin] at hc
      obtain ⟨z, hz0, hz⟩ := field_int (hint _ _ hfq) hy
      rw [hz0] at hc
      have : cellI w x q = z := by unfold cellI; rw [hc]
      rw [this]
      exact ⟨hc, hz⟩
    have hcell : ∀ i, i < ((List.range (l * fs.size)).map (cellI w x)).length → w.cell? (x.add i) = some (.int .i64 (((List.range (l * fs.size)).map (cellI w x)).getD i 0)) := fun i hi => by
      simp at hi
      rw [(each i hi).1]
      simp [List.getD, hi]
    refine ⟨some x, l, m, (List.range (l * fs.size)).map (cellI w x), hcs, ?_, fun z hz => ?_⟩
    · refine ⟨by simp, hl, hm, fun h => (by cases h), ?_⟩
      by_cases h0 : 0 < l * fs.size
      · obtain ⟨b, off, rfl, hc⟩ := ints_at hcell (by simpa using h0)
        refine ⟨b, off, fun _ => rfl, fun i u hu => ?_⟩
        rw [List.getElem?_map] at hu
        obtain ⟨z, hz, rfl⟩ := Option.map_eq_some_iff.1 hu
        have hil := (List.getElem?_eq_some_iff.1 hz).1
        rw [hc i hil]
        simp [List.getD, hz]
      · have hl0 : l = 0 := by
          rcases Nat.eq_zero_or_pos l with h | h
          · exact h
          · exact absurd (Nat.mul_pos h hpos) h0
        subst hl0
        exact ⟨0, 0, fun h => absurd h (by omega), fun i u hu => by simp at hu⟩
    · obtain ⟨q, hq, rfl⟩ := List.mem_map.1 hz
      exact wf_range (each q (List.mem_range.1 hq)).2
end
theorem list11 {l : List Value} (h : l.length = 11) : ∃ a b c d e f g h i j k, l = [a, b, c, d, e, f, g, h, i, j, k] := by
  match l, h with
  | [a, b, c, d, e, f, g, h, i, j, k], _ => exact ⟨a, b, c, d, e, f, g, h, i, j, k, rfl⟩
end Go.Proofs.YtlmdckcohoddnaaDoor
namespace Go.Proofs.YtlmdckcohoddnaaDoor
open Go.ChangeShapes Go.WideShapes Go.Deep Go.RowKit
section
variable {H : Type} {enc : TypeId × Value → H} {P : Program} {w : World} {base : Nat} {held : Bool}
theorem chunk {xs : List Value} {es : List Value} {i sz : Nat} (he : es.length = sz) (h : ∀ j, j < sz → xs[i + j]? = es[j]?) : (xs.drop i).take sz = es := by
  apply List.ext_getElem?
  intro j
  by_cases hj : j < sz
  · rw [List.getElem?_take_of_lt hj, List.getElem?_drop, h j hj]
  · rw [List.getElem?_eq_none (by simp; omega), List.getElem?_eq_none (by omega)]
theorem field_row {t e sz : Nat} {n : Nat} {u : Value} {y : DataW H × List MemPlace} (ht : P.underlying t = some (.slice e)) (hC : P.cellsOf e = sz) (hpos : 0 < sz) (h : DataW.trod enc P w base (fun _ => true) held n t [u] = some y) :
    ∃ a m c xs k, u = .slice a m c ∧ RowC w a m c sz xs ∧ ∀ q, q < m → ∃ z, DataW.trod enc P w base (fun _ => true) held k e ((xs.drop (q * sz)).take sz) = some z := by
  rcases open_slice ht h with ⟨hcs, _⟩ | ⟨x, l, c, m, n1, _, _, hcs, _, hl, hm, hmm, _, hi⟩
  · simp at hcs
    exact ⟨none, 0, 0, [], 0, hcs, ⟨by simp, Nat.le_refl _, Nat.zero_le _, fun _ => rfl, 0, 0, fun h => absurd h (by omega), fun i u hu => by simp at hu⟩, fun q hq => absurd hq (by omega)⟩
  · simp at hcs hmm
    subst hmm
    have each : ∀ q j, q < l → j < sz → ∃ es, DataW.trod enc P w base (fun _ => true) held n1 e es = some (‹Nat → DataW H› q, ‹Nat → List MemPlace› q) ∧ es.length = sz ∧ w.cell? (x.add (q * sz + j)) = es[j]? := fun q j hq hj => by
      obtain ⟨es, hes, hte⟩ := hi q (by omega)
      obtain ⟨_, hel, hea⟩ := World.cells?_some hes
      rw [hC] at hel hea
      have hc := hea j hj
      rw [Go.Deep.add_add] at hc
      exact ⟨es, hte, hel, hc⟩
    have some_ : ∀ i, i < l * sz → ∃ v, w.cell? (x.add i) = some v := fun i h => by
      have hq : i / sz < l := Nat.div_lt_of_lt_mul (by rw [Nat.mul_comm]; exact h)
      obtain ⟨es, _, hl2, hc⟩ := each (i / sz) (i % sz) hq (Nat.mod_lt _ hpos)
      rw [Nat.div_add_mod'] at hc
      have : i % sz < es.length := by rw [hl2]; exact Nat.mod_lt _ hpos
      exact ⟨_, by rw [hc, List.getElem?_eq_getElem this]⟩
    let xs : List Value := (List.range (l * sz)).map fun i => (w.cell? (x.add i)).getD (.bool false)
    have hxs : ∀ i, i < l * sz → xs[i]? = w.cell? (x.add i) := fun i hi => by
      obtain ⟨v, hv⟩ := some_ i hi
      show ((List.range (l * sz)).map _)[i]? = _
      rw [List.getElem?_map, List.getElem?_range hi, Option.map_some, hv]
      rfl
    have hxl : xs.length = l * sz := by show ((List.range (l * sz)).map _).length = _; simp
    refine ⟨some x, l, m, xs, n1, hcs, ⟨hxl, hl, hm, (fun h => by cases h), ?_⟩, fun q hq => ?_⟩
    · by_cases h0 : 0 < l * sz
      · obtain ⟨v, hv⟩ := some_ 0 h0
        obtain ⟨b, off, spot⟩ := x
        have hspot : spot = none := by simpa [Addr.add] using World.cell?_spot hv
        subst hspot
        refine ⟨b, off, fun _ => rfl, fun i u hu => ?_⟩
        have hil : i < l * sz := by rw [← hxl]; exact (List.getElem?_eq_some_iff.1 hu).1
        rw [← Go.WideShapes.add_plain, ← hxs i hil]
        exact hu
      · have hl0 : l = 0 := by
          rcases Nat.eq_zero_or_pos l with h | h
          · exact h
          · exact absurd (Nat.mul_pos h hpos) h0
        subst hl0
        exact ⟨0, 0, fun h => absurd h (by omega), fun i u hu => by have := (List.getElem?_eq_some_iff.1 hu).1; rw [hxl] at this; omega⟩
    · obtain ⟨es, hes, hte⟩ := hi q (by omega)
      obtain ⟨_, hel, hea⟩ := World.cells?_some hes
      rw [hC] at hel hea
      have : (xs.drop (q * sz)).take sz = es := chunk hel (fun j hj => by
        have hlt : q * sz + j < l * sz := by
          have : (q + 1) * sz ≤ l * sz := Nat.mul_le_mul_right _ hq
          rw [Nat.add_mul] at this
          omega
        rw [hxs _ hlt, ← hea j hj, Go.Deep.add_add])
      rw [this]
      exact ⟨_, hte⟩
theorem field_intss {t e e2 : TypeId} {n : Nat} {u : Value} {y : DataW H × List MemPlace} (ht : P.underlying t = some (.slice e)) (hC : P.cellsOf e = 1) (he : P.underlying e = some (.slice e2)) (he2 : P.underlying e2 = some (.int .i64)) (hc2 : P.cellsOf e2 = 1)
    (h : DataW.trod enc P w base (fun _ => true) held n t [u] = some y) : ∃ a m c rs, u = .slice a m c ∧ IntSS w a m c rs ∧ ∀ r ∈ rs, Wf r.2.2 := by
  obtain ⟨a, m, c, xs, k, rfl, hr, hi⟩ := field_row ht hC (by decide) h
  have hxl := hr.1
  have each : ∀ q, q < m → ∃ r : RowD, xs[q]? = some (rowV r) ∧ Ints w r.1 r.2.2.length r.2.1 r.2.2 ∧ Wf r.2.2 := fun q hq => by
    obtain ⟨z, hz⟩ := hi q hq
    have hlt : q < xs.length := by omega
    rw [Nat.mul_one, List.drop_eq_getElem_cons hlt, List.take_succ_cons, List.take_zero] at hz
    obtain ⟨b, m2, d, l, hu, hI, hw⟩ := field_ints he he2 hc2 hz
    obtain rfl := hI.len
    exact ⟨(b, d, l), by rw [List.getElem?_eq_getElem hlt, hu]; rfl, hI, hw⟩
  obtain ⟨R, hR⟩ := choose_lt (α := RowD) (p := fun q r => xs[q]? = some (rowV r) ∧ Ints w r.1 r.2.2.length r.2.1 r.2.2 ∧ Wf r.2.2) each
  refine ⟨a, m, c, (List.range m).map R, rfl, ⟨?_, fun r hr' => ?_⟩, fun r hr' => ?_⟩
  · have : ((List.range m).map R).map rowV = xs := by
      apply List.ext_getElem?
      intro q
      by_cases hq : q < m
      · rw [(hR q hq).1]; simp [hq]
      · rw [List.getElem?_eq_none (by simp; omega), List.getElem?_eq_none (by omega)]
    rw [this]
    exact hr
  · obtain ⟨q, hq, rfl⟩ := List.mem_map.1 hr'
    exact (hR q (List.mem_range.1 hq)).2.1
  · obtain ⟨q, hq, rfl⟩ := List.mem_map.1 hr'
    exact (hR q (List.mem_range.1 hq)).2.2
end
end Go.Proofs.YtlmdckcohoddnaaDoor
namespace Go.Proofs.YtlmdckcohoddnaaDoor
open Go.ChangeShapes Go.WideShapes Go.Deep Go.RowKit
section
variable {H : Type} {enc : TypeId × Value → H} {P : Program} {w : World} {base : Nat} {held : Bool}
theorem field_msgs {t e : TypeId} {f0 f1 f2 : Field} {eE : TypeId} {n : Nat} {u : Value} {y : DataW H × List MemPlace} (ht : P.underlying t = some (.slice e)) (he : P.underlying e = some (.struct #[f0, f1, f2])) (hone : oneCellFields P #[f0, f1, f2] = true) (hC : P.cellsOf e = 3)
    (hi0 : P.underlying f0.type = some (.int .i64)) (hi1 : P.underlying f1.type = some (.int .i64)) (hsl : P.underlying f2.type = some (.slice eE)) (hE : P.underlying eE = some (.int .i64)) (hcE : P.cellsOf eE = 1)
    (h : DataW.trod enc P w base (fun _ => true) held n t [u] = some y) : ∃ a m c l, u = .slice a m c ∧ MsR w a m c l := by
  obtain ⟨a, m, c, xs, k, rfl, hr, hi⟩ := field_row ht hC (by decide) h
  have hxl := hr.1
  have each : ∀ q, q < m → ∃ r : MsRow, (∀ j, j < 3 → xs[q * 3 + j]? = (msC r)[j]?) ∧ Ints w r.2.2.1 r.2.2.2.2.length r.2.2.2.1 r.2.2.2.2 := fun q hq => by
    obtain ⟨z, hz⟩ := hi q hq
    have hl3 : ((xs.drop (q * 3)).take 3).length = 3 := by simp; omega
    have hat : ∀ j, j < 3 → ((xs.drop (q * 3)).take 3)[j]? = xs[q * 3 + j]? := fun j hj => by rw [List.getElem?_take_of_lt hj, List.getElem?_drop]
    generalize (xs.drop (q * 3)).take 3 = es at *
    obtain ⟨gs, n1, _, _, _, hgl, hg⟩ := DataW.trod_struct he hz
    have fld : ∀ (j : Nat) (f : Field), (#[f0, f1, f2] : Array Field)[j]? = some f → ∀ hj : j < es.length, ∃ y, DataW.trod enc P w base (fun _ => true) held n1 f.type [es[j]] = some y := by
      intro j f hf hj
      have hy := hg j f hf
      obtain ⟨ho, hk⟩ := hone_of hone j f hf
      rw [ho, hk, List.drop_eq_getElem_cons hj, List.take_succ_cons, List.take_zero] at hy
      have hjl : j < gs.length := by have := (Array.getElem?_eq_some_iff.1 hf).1; simp at this hgl; omega
      rw [List.getElem?_eq_getElem hjl] at hy
      exact ⟨_, hy⟩
    obtain ⟨_, t0⟩ := fld 0 f0 rfl (by omega)
    obtain ⟨_, t1⟩ := fld 1 f1 rfl (by omega)
    obtain ⟨_, t2⟩ := fld 2 f2 rfl (by omega)
    obtain ⟨x0, e0, _⟩ := field_int hi0 t0
    obtain ⟨x1, e1, _⟩ := field_int hi1 t1
    obtain ⟨b, m2, d, l, e2, hI, _⟩ := field_ints hsl hE hcE t2
    obtain rfl := hI.len
    refine ⟨(x0, x1, b, d, l), fun j hj => ?_, hI⟩
    rw [← hat j hj]
    match j, hj with
    | 0, _ => rw [List.getElem?_eq_getElem (by omega), e0]; rfl
    | 1, _ => rw [List.getElem?_eq_getElem (by omega), e1]; rfl
    | 2, _ => rw [List.getElem?_eq_getElem (by omega), e2]; rfl
  obtain ⟨R, hR⟩ := choose_lt (α := MsRow) (p := fun q r => (∀ j, j < 3 → xs[q * 3 + j]? = (msC r)[j]?) ∧ Ints w r.2.2.1 r.2.2.2.2.length r.2.2.2.1 r.2.2.2.2) each
  refine ⟨a, m, c, _, rfl, (List.range m).map R, ⟨?_, fun r hr' => ?_⟩, rfl⟩
  · have : ((List.range m).map R).flatMap msC = xs := by
      apply List.ext_getElem?
      intro i
      by_cases hi : i < m * 3
      · have hd : i / 3 < m := by omega
        have e : i = i / 3 * 3 + i % 3 := by omega
        rw [e, msC_at (by simpa using hd) (Nat.mod_lt _ (by decide)), (hR _ hd).1 _ (Nat.mod_lt _ (by decide))]
        have : msAt ((List.range m).map R) (i / 3) = R (i / 3) := by simp [msAt, List.getD, hd]
        rw [this]
      · rw [List.getElem?_eq_none (by rw [msC_len]; simp; omega), List.getElem?_eq_none (by omega)]
    rw [this]
    exact hr
  · obtain ⟨q, hq, rfl⟩ := List.mem_map.1 hr'
    exact (hR q (List.mem_range.1 hq)).2
end
end Go.Proofs.YtlmdckcohoddnaaDoor
