/- Lemmas and walks that the claim's proof rests on, part 6. -/
import Derived.Deep.Slices
import Derived.Deep.Fields
import Derived.ChangeSame
import Derived.ProofKit
import Derived.Test.YtlmdckcohoddnaaK1
import Derived.Test.YtlmdckcohoddnaaK2
import Derived.Test.YtlmdckcohoddnaaK5
namespace Go.Proofs.Ytlmdckcohoddnaa
open Go.RowKit
set_option maxHeartbeats 16000000 in
set_option maxRecDepth 100000 in
theorem FnExactDealPlayers_walk (a0 : Int) (a1 : Int) (a2 : Int) (a3 : Int) (w : World) (_w0 : -9223372036854775808 ≤ a0 ∧ a0 ≤ 9223372036854775807) (_w1 : -9223372036854775808 ≤ a1 ∧ a1 ≤ 9223372036854775807) (_w2 : -9223372036854775808 ≤ a2 ∧ a2 ≤ 9223372036854775807) (_w3 : -9223372036854775808 ≤ a3 ∧ a3 ≤ 9223372036854775807) :
    Calls Try.prog 3 #[.int .i64 a0, .int .i64 a1, .int .i64 a2, .int .i64 a3] w fun e w' => e = .returned (.bool true) ∧ Below w.heap.size w w' := by
  have CS := fun (W : World)  => spec_DealPlayers_any a0 a1 a2 a3 W
  have CI := fun (W : World)  => DealPlayers_any a0 a1 a2 a3 W
  have hl0 := dpR_1 a0 a1 a2 a3
  have hl1 := dpR_2 a0 a1 a2 a3
  generalize (dpR a0 a1 a2 a3).1 = d0_0 at CS CI hl0 hl1
  generalize (dpR a0 a1 a2 a3).2 = d1_0 at CS CI hl0 hl1
  generalize dpB a0 a1 a2 a3 = d2_0 at CS CI hl0 hl1
  replace CS := Lib.hid CS
  replace CI := Lib.hid CI
  go_enter Try.func3, Try.ntmps3
  go_wp2_with fail
  refine (CS.out _   ).mono ?_
  rintro e w1' ⟨r0, F_r0, r1, F_r1, rfl, or0, or1, dj_r0_r1, u_w1'⟩
  have V_w1' := (Below.refl w.heap.size w).trans (u_w1'.mono ((Below.refl w.heap.size w)).size)
  have S_w1' := u_w1'.size
  clear u_w1'
  have Q_or0 := Lib.hid or0.feet
  have Q_or1 := Lib.hid or1.feet
  go_wp2_with fail
  refine Exists.elim (Blk.new_ w1' (b := w1'.heap.size) rfl 26 #[.int .i64 d0_0.P, .int .i64 d0_0.party, .int .i64 d0_0.input, .int .i64 d0_0.mask, .int .i64 d0_0.delta, .slice r0.sa r0.sn r0.sc, .slice r0.ka r0.kn r0.kc, .int .i64 d0_0.step, .slice r0.ha r0.hn r0.hc, .int .i64 d0_0.status, .int .i64 d0_0.out]) (fun w2_a0' q => ?_)
  rw [q.1]; have B_r0 := q.2.1; have s_w2_a0' := q.2.2.1; have u_w2_a0' := q.2.2.2; clear q
  refine Exists.elim (Blk.new_ w2_a0' (b := w1'.heap.size + 1) s_w2_a0' 26 #[.int .i64 d1_0.P, .int .i64 d1_0.party, .int .i64 d1_0.input, .int .i64 d1_0.mask, .int .i64 d1_0.delta, .slice r1.sa r1.sn r1.sc, .slice r1.ka r1.kn r1.kc, .int .i64 d1_0.step, .slice r1.ha r1.hn r1.hc, .int .i64 d1_0.status, .int .i64 d1_0.out]) (fun w2' q => ?_)
  rw [q.1]; have B_r1 := q.2.1; have s_w2' := q.2.2.1; have u_w2' := q.2.2.2; clear q
  replace B_r0 := (B_r0.below u_w2')
  have U := (u_w2_a0'.trans (u_w2'.mono u_w2_a0'.size))
  replace or0 := or0.below U
  replace or1 := or1.below U
  have V_w2' := V_w1'.trans (U.mono (V_w1').size)
  have S_w2' : w1'.heap.size + 2 ≤ w2'.heap.size := Nat.le_of_eq s_w2'.symm
  clear u_w2_a0' u_w2' s_w2_a0' s_w2' U V_w1'
  refine (CI.out _   ).mono ?_
  rintro e w3' ⟨g0, F_g0, g1, F_g1, rfl, og0, og1, dj_g0_g1, u_w3'⟩
  replace B_r0 := B_r0.below u_w3'
  replace B_r1 := B_r1.below u_w3'
  replace or0 := or0.below u_w3'
  replace or1 := or1.below u_w3'
  have V_w3' := V_w2'.trans (u_w3'.mono (V_w2').size)
  have S_w3' := u_w3'.size
  clear u_w3' V_w2'
  have Q_og0 := Lib.hid og0.feet
  have Q_og1 := Lib.hid og1.feet
  have e_r0 := B_r0.all11
  have B_r0_0 := B_r0.alloc (.cells #[.int .i64 d0_0.P, .int .i64 d0_0.party, .int .i64 d0_0.input, .int .i64 d0_0.mask, .int .i64 d0_0.delta, .slice g0.sa g0.sn g0.sc, .slice g0.ka g0.kn g0.kc, .int .i64 d0_0.step, .slice g0.ha g0.hn g0.hc, .int .i64 d0_0.status, .int .i64 d0_0.out] 26)
  have e_r0_0 := B_r0_0.all11
  have B_r0_1 := B_r0_0.alloc (.cells #[.int .i64 d1_0.P, .int .i64 d1_0.party, .int .i64 d1_0.input, .int .i64 d1_0.mask, .int .i64 d1_0.delta, .slice g1.sa g1.sn g1.sc, .slice g1.ka g1.kn g1.kc, .int .i64 d1_0.step, .slice g1.ha g1.hn g1.hc, .int .i64 d1_0.status, .int .i64 d1_0.out] 26)
  have e_r0_1 := B_r0_1.all11
  go_wp2_with fail
  clear e_r0 B_r0_0 e_r0_0 B_r0_1 e_r0_1
  refine Exists.elim (Blk.new_ w3' (b := w3'.heap.size) rfl 26 #[.int .i64 d0_0.P, .int .i64 d0_0.party, .int .i64 d0_0.input, .int .i64 d0_0.mask, .int .i64 d0_0.delta, .slice g0.sa g0.sn g0.sc, .slice g0.ka g0.kn g0.kc, .int .i64 d0_0.step, .slice g0.ha g0.hn g0.hc, .int .i64 d0_0.status, .int .i64 d0_0.out]) (fun w4_a0' q => ?_)
  rw [q.1]; have B_g0 := q.2.1; have s_w4_a0' := q.2.2.1; have u_w4_a0' := q.2.2.2; clear q
  refine Exists.elim (Blk.new_ w4_a0' (b := w3'.heap.size + 1) s_w4_a0' 26 #[.int .i64 d1_0.P, .int .i64 d1_0.party, .int .i64 d1_0.input, .int .i64 d1_0.mask, .int .i64 d1_0.delta, .slice g1.sa g1.sn g1.sc, .slice g1.ka g1.kn g1.kc, .int .i64 d1_0.step, .slice g1.ha g1.hn g1.hc, .int .i64 d1_0.status, .int .i64 d1_0.out]) (fun w4' q => ?_)
  rw [q.1]; have B_g1 := q.2.1; have s_w4' := q.2.2.1; have u_w4' := q.2.2.2; clear q
  replace B_g0 := (B_g0.below u_w4')
  have U := (u_w4_a0'.trans (u_w4'.mono u_w4_a0'.size))
  replace B_r0 := B_r0.below U
  replace B_r1 := B_r1.below U
  replace or0 := or0.below U
  replace or1 := or1.below U
  replace og0 := og0.below U
  replace og1 := og1.below U
  have V_w4' := V_w3'.trans (U.mono (V_w3').size)
  have S_w4' : w3'.heap.size + 2 ≤ w4'.heap.size := Nat.le_of_eq s_w4'.symm
  clear u_w4_a0' u_w4' s_w4_a0' s_w4' U V_w3'
  refine (eqPlayer_o d0_0 _ _ _ og0.rd or0.rd).mono ?_
  rintro e w5' ⟨rfl, u_w5'⟩
  replace B_r0 := B_r0.below u_w5'
  replace B_r1 := B_r1.below u_w5'
  replace B_g0 := B_g0.below u_w5'
  replace B_g1 := B_g1.below u_w5'
  replace or0 := or0.below u_w5'
  replace or1 := or1.below u_w5'
  replace og0 := og0.below u_w5'
  replace og1 := og1.below u_w5'
  have V_w5' := V_w4'.trans (u_w5'.mono (V_w4').size)
  have S_w5' := u_w5'.size
  clear u_w5' V_w4'
  have e_g1 := B_g1.all11
  have e_r1 := B_r1.all11
  go_wp2_with fail
  clear e_g1 e_r1
  refine (eqPlayer_o d1_0 _ _ _ og1.rd or1.rd).mono ?_
  rintro e w6' ⟨rfl, u_w6'⟩
  replace B_r0 := B_r0.below u_w6'
  replace B_r1 := B_r1.below u_w6'
  replace B_g0 := B_g0.below u_w6'
  replace B_g1 := B_g1.below u_w6'
  replace or0 := or0.below u_w6'
  replace or1 := or1.below u_w6'
  replace og0 := og0.below u_w6'
  replace og1 := og1.below u_w6'
  have V_w6' := V_w5'.trans (u_w6'.mono (V_w5').size)
  have S_w6' := u_w6'.size
  clear u_w6' V_w5'
  have e_g0 := B_g0.all11
  go_wp2_with fail
  clear e_g0
  refine (markPlayer_o _ _ _ _ _ _ _ _ _ og0 (by omega) (by omega)).mono ?_
  rintro e w7' ⟨ms_og0, mk_og0, mh_og0, rfl, og0, U_og0, T_og0, G⟩
  replace U_og0 := Lib.hid U_og0
  have hm_og0 : cntP ms_og0 mk_og0 mh_og0 ≤ 10000000 := by omega
  clear T_og0
  replace or0 := or0.only G (fun k hk hk' => by have := Q_or0.out k hk; have := Q_og0.out k hk'; omega)
  replace or1 := or1.only G (fun k hk hk' => by have := Q_or1.out k hk; have := Q_og0.out k hk'; omega)
  replace og1 := og1.only G dj_g0_g1.symm
  replace B_r0 := B_r0.only G (fun hm => by have := Q_og0.out _ hm; omega)
  replace B_r1 := B_r1.only G (fun hm => by have := Q_og0.out _ hm; omega)
  replace B_g0 := B_g0.only G (fun hm => by have := Q_og0.out _ hm; omega)
  replace B_g1 := B_g1.only G (fun hm => by have := Q_og0.out _ hm; omega)
  have V_w7' := V_w6'.trans (G.below V_w6'.size (fun k hm => by have := V_w6'.size; have := Q_og0.out k hm; omega))
  have S_w7' := G.size
  clear G V_w6'
  have e_g1 := B_g1.all11
  go_wp2_with fail
  clear e_g1
  refine (markPlayer_o _ _ _ _ _ _ _ _ _ og1 (by omega) (by omega)).mono ?_
  rintro e w8' ⟨ms_og1, mk_og1, mh_og1, rfl, og1, U_og1, T_og1, G⟩
  replace U_og1 := Lib.hid U_og1
  have hm_og1 : cntP ms_og1 mk_og1 mh_og1 ≤ 10000000 := by omega
  clear T_og1
  replace or0 := or0.only G (fun k hk hk' => by have := Q_or0.out k hk; have := Q_og1.out k hk'; omega)
  replace or1 := or1.only G (fun k hk hk' => by have := Q_or1.out k hk; have := Q_og1.out k hk'; omega)
  replace og0 := og0.only G dj_g0_g1
  replace B_r0 := B_r0.only G (fun hm => by have := Q_og1.out _ hm; omega)
  replace B_r1 := B_r1.only G (fun hm => by have := Q_og1.out _ hm; omega)
  replace B_g0 := B_g0.only G (fun hm => by have := Q_og1.out _ hm; omega)
  replace B_g1 := B_g1.only G (fun hm => by have := Q_og1.out _ hm; omega)
  have V_w8' := V_w7'.trans (G.below V_w7'.size (fun k hm => by have := V_w7'.size; have := Q_og1.out k hm; omega))
  have S_w8' := G.size
  clear G V_w7'
  have e_g0 := B_g0.all11
  go_wp2_with fail
  clear e_g0
  refine (heldPlayer_o _ _ _ _ _ _ _ og0.rd U_og0.out (by omega) (by omega)).mono ?_
  rintro e w9' ⟨rfl, u_w9'⟩
  replace B_r0 := B_r0.below u_w9'
  replace B_r1 := B_r1.below u_w9'
  replace B_g0 := B_g0.below u_w9'
  replace B_g1 := B_g1.below u_w9'
  replace or0 := or0.below u_w9'
  replace or1 := or1.below u_w9'
  replace og0 := og0.below u_w9'
  replace og1 := og1.below u_w9'
  have V_w9' := V_w8'.trans (u_w9'.mono (V_w8').size)
  have S_w9' := u_w9'.size
  clear u_w9' V_w8'
  have e_g1 := B_g1.all11
  go_wp2_with fail
  clear e_g1
  refine (heldPlayer_o _ _ _ _ _ _ _ og1.rd U_og1.out (by omega) (by omega)).mono ?_
  rintro e w10' ⟨rfl, u_w10'⟩
  replace B_r0 := B_r0.below u_w10'
  replace B_r1 := B_r1.below u_w10'
  replace B_g0 := B_g0.below u_w10'
  replace B_g1 := B_g1.below u_w10'
  replace or0 := or0.below u_w10'
  replace or1 := or1.below u_w10'
  replace og0 := og0.below u_w10'
  replace og1 := og1.below u_w10'
  have V_w10' := V_w9'.trans (u_w10'.mono (V_w9').size)
  have S_w10' := u_w10'.size
  clear u_w10' V_w9'
  go_wp2_with fail
  refine (CI.out _   ).mono ?_
  rintro e w11' ⟨h0, F_h0, h1, F_h1, rfl, oh0, oh1, dj_h0_h1, u_w11'⟩
  replace B_r0 := B_r0.below u_w11'
  replace B_r1 := B_r1.below u_w11'
  replace B_g0 := B_g0.below u_w11'
  replace B_g1 := B_g1.below u_w11'
  replace or0 := or0.below u_w11'
  replace or1 := or1.below u_w11'
  replace og0 := og0.below u_w11'
  replace og1 := og1.below u_w11'
  have V_w11' := V_w10'.trans (u_w11'.mono (V_w10').size)
  have S_w11' := u_w11'.size
  clear u_w11' V_w10'
  have Q_oh0 := Lib.hid oh0.feet
  have Q_oh1 := Lib.hid oh1.feet
  have e_r0 := B_r0.all11
  have B_r0_0 := B_r0.alloc (.cells #[.int .i64 d0_0.P, .int .i64 d0_0.party, .int .i64 d0_0.input, .int .i64 d0_0.mask, .int .i64 d0_0.delta, .slice h0.sa h0.sn h0.sc, .slice h0.ka h0.kn h0.kc, .int .i64 d0_0.step, .slice h0.ha h0.hn h0.hc, .int .i64 d0_0.status, .int .i64 d0_0.out] 26)
  have e_r0_0 := B_r0_0.all11
  have B_r0_1 := B_r0_0.alloc (.cells #[.int .i64 d1_0.P, .int .i64 d1_0.party, .int .i64 d1_0.input, .int .i64 d1_0.mask, .int .i64 d1_0.delta, .slice h1.sa h1.sn h1.sc, .slice h1.ka h1.kn h1.kc, .int .i64 d1_0.step, .slice h1.ha h1.hn h1.hc, .int .i64 d1_0.status, .int .i64 d1_0.out] 26)
  have e_r0_1 := B_r0_1.all11
  go_wp2_with fail
  clear e_r0 B_r0_0 e_r0_0 B_r0_1 e_r0_1
  refine Exists.elim (Blk.new_ w11' (b := w11'.heap.size) rfl 26 #[.int .i64 d0_0.P, .int .i64 d0_0.party, .int .i64 d0_0.input, .int .i64 d0_0.mask, .int .i64 d0_0.delta, .slice h0.sa h0.sn h0.sc, .slice h0.ka h0.kn h0.kc, .int .i64 d0_0.step, .slice h0.ha h0.hn h0.hc, .int .i64 d0_0.status, .int .i64 d0_0.out]) (fun w12_a0' q => ?_)
  rw [q.1]; have B_h0 := q.2.1; have s_w12_a0' := q.2.2.1; have u_w12_a0' := q.2.2.2; clear q
  refine Exists.elim (Blk.new_ w12_a0' (b := w11'.heap.size + 1) s_w12_a0' 26 #[.int .i64 d1_0.P, .int .i64 d1_0.party, .int .i64 d1_0.input, .int .i64 d1_0.mask, .int .i64 d1_0.delta, .slice h1.sa h1.sn h1.sc, .slice h1.ka h1.kn h1.kc, .int .i64 d1_0.step, .slice h1.ha h1.hn h1.hc, .int .i64 d1_0.status, .int .i64 d1_0.out]) (fun w12' q => ?_)
  rw [q.1]; have B_h1 := q.2.1; have s_w12' := q.2.2.1; have u_w12' := q.2.2.2; clear q
  replace B_h0 := (B_h0.below u_w12')
  have U := (u_w12_a0'.trans (u_w12'.mono u_w12_a0'.size))
  replace B_r0 := B_r0.below U
  replace B_r1 := B_r1.below U
  replace B_g0 := B_g0.below U
  replace B_g1 := B_g1.below U
  replace or0 := or0.below U
  replace or1 := or1.below U
  replace og0 := og0.below U
  replace og1 := og1.below U
  replace oh0 := oh0.below U
  replace oh1 := oh1.below U
  have V_w12' := V_w11'.trans (U.mono (V_w11').size)
  have S_w12' : w11'.heap.size + 2 ≤ w12'.heap.size := Nat.le_of_eq s_w12'.symm
  clear u_w12_a0' u_w12' s_w12_a0' s_w12' U V_w11'
  refine (eqPlayer_o d0_0 _ _ _ oh0.rd or0.rd).mono ?_
  rintro e w13' ⟨rfl, u_w13'⟩
  replace B_r0 := B_r0.below u_w13'
  replace B_r1 := B_r1.below u_w13'
  replace B_g0 := B_g0.below u_w13'
  replace B_g1 := B_g1.below u_w13'
  replace B_h0 := B_h0.below u_w13'
  replace B_h1 := B_h1.below u_w13'
  replace or0 := or0.below u_w13'
  replace or1 := or1.below u_w13'
  replace og0 := og0.below u_w13'
  replace og1 := og1.below u_w13'
  replace oh0 := oh0.below u_w13'
  replace oh1 := oh1.below u_w13'
  have V_w13' := V_w12'.trans (u_w13'.mono (V_w12').size)
  have S_w13' := u_w13'.size
  clear u_w13' V_w12'
  have e_h1 := B_h1.all11
  have e_r1 := B_r1.all11
  go_wp2_with fail
  clear e_h1 e_r1
  refine (eqPlayer_o d1_0 _ _ _ oh1.rd or1.rd).mono ?_
  rintro e w14' ⟨rfl, u_w14'⟩
  replace B_r0 := B_r0.below u_w14'
  replace B_r1 := B_r1.below u_w14'
  replace B_g0 := B_g0.below u_w14'
  replace B_g1 := B_g1.below u_w14'
  replace B_h0 := B_h0.below u_w14'
  replace B_h1 := B_h1.below u_w14'
  replace or0 := or0.below u_w14'
  replace or1 := or1.below u_w14'
  replace og0 := og0.below u_w14'
  replace og1 := og1.below u_w14'
  replace oh0 := oh0.below u_w14'
  replace oh1 := oh1.below u_w14'
  have V_w14' := V_w13'.trans (u_w14'.mono (V_w13').size)
  have S_w14' := u_w14'.size
  clear u_w14' V_w13'
  have e_g0 := B_g0.all11
  go_wp2_with fail
  clear e_g0
  refine (heldPlayer_o _ _ _ _ _ _ _ og0.rd U_og0.out (by omega) (by omega)).mono ?_
  rintro e w15' ⟨rfl, u_w15'⟩
  replace B_r0 := B_r0.below u_w15'
  replace B_r1 := B_r1.below u_w15'
  replace B_g0 := B_g0.below u_w15'
  replace B_g1 := B_g1.below u_w15'
  replace B_h0 := B_h0.below u_w15'
  replace B_h1 := B_h1.below u_w15'
  replace or0 := or0.below u_w15'
  replace or1 := or1.below u_w15'
  replace og0 := og0.below u_w15'
  replace og1 := og1.below u_w15'
  replace oh0 := oh0.below u_w15'
  replace oh1 := oh1.below u_w15'
  have V_w15' := V_w14'.trans (u_w15'.mono (V_w14').size)
  have S_w15' := u_w15'.size
  clear u_w15' V_w14'
  have e_g1 := B_g1.all11
  go_wp2_with fail
  clear e_g1
  refine (heldPlayer_o _ _ _ _ _ _ _ og1.rd U_og1.out (by omega) (by omega)).mono ?_
  rintro e w16' ⟨rfl, u_w16'⟩
  replace B_r0 := B_r0.below u_w16'
  replace B_r1 := B_r1.below u_w16'
  replace B_g0 := B_g0.below u_w16'
  replace B_g1 := B_g1.below u_w16'
  replace B_h0 := B_h0.below u_w16'
  replace B_h1 := B_h1.below u_w16'
  replace or0 := or0.below u_w16'
  replace or1 := or1.below u_w16'
  replace og0 := og0.below u_w16'
  replace og1 := og1.below u_w16'
  replace oh0 := oh0.below u_w16'
  replace oh1 := oh1.below u_w16'
  have V_w16' := V_w15'.trans (u_w16'.mono (V_w15').size)
  have S_w16' := u_w16'.size
  clear u_w16' V_w15'
  go_wp2
  go_ret
  exact ⟨rfl, V_w16'⟩
end Go.Proofs.Ytlmdckcohoddnaa
namespace Go.Proofs.Ytlmdckcohoddnaa
open Go.ChangeShapes Go.WideShapes Go.Deep Go.RowKit
end Go.Proofs.Ytlmdckcohoddnaa
namespace Go.Proofs.Ytlmdckcohoddnaa
open Go.ChangeShapes Go.WideShapes Go.Deep Go.RowKit
end Go.Proofs.Ytlmdckcohoddnaa
