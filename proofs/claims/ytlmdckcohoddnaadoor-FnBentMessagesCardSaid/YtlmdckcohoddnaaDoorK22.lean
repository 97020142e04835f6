/- Lemmas and walks that the claim's proof rests on, part 22. -/
import Derived.Test.YtlmdckcohoddnaaDoorK18
import Derived.Test.YtlmdckcohoddnaaDoorK20
import Derived.Test.YtlmdckcohoddnaaDoorK21
namespace Go.Proofs.YtlmdckcohoddnaaDoor
open Go.RowKit
theorem bm_law {p key x y at_ i k : Int} (hb : dpB p key x y = true) (h2 : rbB (dpR p key x y).1 (dpR p key x y).2 at_ i k = true) :
    ((rbR (dpR p key x y).1 (dpR p key x y).2 at_ i k).1.status = 1 → (rbR (dpR p key x y).1 (dpR p key x y).2 at_ i k).1.out = x * y % p) ∧
    ((rbR (dpR p key x y).1 (dpR p key x y).2 at_ i k).2.status = 1 → (rbR (dpR p key x y).1 (dpR p key x y).2 at_ i k).2.out = x * y % p) ∧
    (k = 0 → (rbR (dpR p key x y).1 (dpR p key x y).2 at_ i k).1.status = 1 ∧ (rbR (dpR p key x y).1 (dpR p key x y).2 at_ i k).2.status = 1) ∧
    (0 ≤ k ∧ k ≤ p - 1) ∧ (2 ≤ p ∧ p ≤ 251) ∧ (0 ≤ x ∧ x ≤ p - 1) ∧ (0 ≤ y ∧ y ≤ p - 1) := by
  have hb2 := hb
  unfold dpB at hb2
  simp only [Bool.and_eq_true] at hb2
  obtain ⟨pr, p1, p2, x0, x1⟩ := elB_true hb2.1
  obtain ⟨_, _, _, y0, y1⟩ := elB_true hb2.2.1
  have e : dpR p key x y = (dlP p key 0 x, dlP p key 1 y) := by unfold dpR; rw [if_pos hb]
  rw [e] at h2 ⊢
  dsimp only at h2 ⊢
  obtain ⟨_, hat, hk, hi⟩ := rbB_parts h2
  have C := bent_run (dl_fit pr) (dl_new pr (Or.inl rfl) ⟨x0, x1⟩) (dl_new pr (Or.inr rfl) ⟨y0, y1⟩) (at_ := at_) (k := k) (i := i.toNat) hat (by omega) hk
  have hR : rbR (dlP p key 0 x) (dlP p key 1 y) at_ i k = ((runP (chgP p at_ i.toNat k) 3 (dlP p key 0 x) (dlP p key 1 y) []).1, (runP (chgP p at_ i.toNat k) 3 (dlP p key 0 x) (dlP p key 1 y) []).2.1) := by
    unfold rbR; rw [if_pos h2]; rfl
  rw [hR]
  exact ⟨C.a, C.b, C.both, hk, ⟨p1, p2⟩, ⟨x0, x1⟩, ⟨y0, y1⟩⟩
set_option maxHeartbeats 16000000 in
set_option maxRecDepth 100000 in
theorem FnBentMessages_walk (a0 : Int) (a1 : Int) (a2 : Int) (a3 : Int) (a4 : Int) (a5 : Int) (a6 : Int) (w : World) (_w0 : -9223372036854775808 ≤ a0 ∧ a0 ≤ 9223372036854775807) (_w1 : -9223372036854775808 ≤ a1 ∧ a1 ≤ 9223372036854775807) (_w2 : -9223372036854775808 ≤ a2 ∧ a2 ≤ 9223372036854775807) (_w3 : -9223372036854775808 ≤ a3 ∧ a3 ≤ 9223372036854775807) (_w4 : -9223372036854775808 ≤ a4 ∧ a4 ≤ 9223372036854775807) (_w5 : -9223372036854775808 ≤ a5 ∧ a5 ≤ 9223372036854775807) (_w6 : -9223372036854775808 ≤ a6 ∧ a6 ≤ 9223372036854775807) (hT : Tbl w) :
    Calls Tryd.prog 7 #[.int .i64 a0, .int .i64 a1, .int .i64 a2, .int .i64 a3, .int .i64 a4, .int .i64 a5, .int .i64 a6] w fun e w' => e = .returned (.bool true) ∧ Below w.heap.size w w' := by
  have LX := Lib.hid hT
  have HL := fun (hb : dpB a0 a1 a2 a3 = true) (h2 : rbB (dpR a0 a1 a2 a3).1 (dpR a0 a1 a2 a3).2 a4 a5 a6 = true) => bm_law hb h2
  have CD := fun (W : World) => DealPlayers_any a0 a1 a2 a3 W
  have CE := fun (W : World) => spec_DealPlayers_any a0 a1 a2 a3 W
  have CR := fun (W : World) (x z : PlX) (h : PlR W x (dpR a0 a1 a2 a3).1.shares (dpR a0 a1 a2 a3).1.keys (dpR a0 a1 a2 a3).1.heard) (h' : PlR W z (dpR a0 a1 a2 a3).2.shares (dpR a0 a1 a2 a3).2.keys (dpR a0 a1 a2 a3).2.heard) (q : Tbl W) => RunBent_any (dpR a0 a1 a2 a3).1 x (dpR a0 a1 a2 a3).2 z a4 a5 a6 W h h' q
  have CS := fun (W : World) (x z : PlX) (h : PlR W x (dpR a0 a1 a2 a3).1.shares (dpR a0 a1 a2 a3).1.keys (dpR a0 a1 a2 a3).1.heard) (h' : PlR W z (dpR a0 a1 a2 a3).2.shares (dpR a0 a1 a2 a3).2.keys (dpR a0 a1 a2 a3).2.heard) (q : Tbl W) => spec_RunBent_any (dpR a0 a1 a2 a3).1 x (dpR a0 a1 a2 a3).2 z a4 a5 a6 W h h' q
  clear hT _w0 _w1 _w2 _w3 _w4 _w5 _w6
  generalize rbR (dpR a0 a1 a2 a3).1 (dpR a0 a1 a2 a3).2 a4 a5 a6 = R at CR CS HL
  generalize rbB (dpR a0 a1 a2 a3).1 (dpR a0 a1 a2 a3).2 a4 a5 a6 = rb at CR CS HL
  generalize dpR a0 a1 a2 a3 = D at CD CE CR CS
  generalize dpB a0 a1 a2 a3 = db at CD CE HL
  obtain ⟨d1, d2⟩ := D
  obtain ⟨r1, r2⟩ := R
  dsimp only at CD CE CR CS HL
  have P1 := Lib.hid (fun (W : World) (x y : PlX) (h : PlR W x d1.shares d1.keys d1.heard) (h' : PlR W y d1.shares d1.keys d1.heard) => pSamePlayer_p d1 x y W h h')
  have P2 := Lib.hid (fun (W : World) (x y : PlX) (h : PlR W x d2.shares d2.keys d2.heard) (h' : PlR W y d2.shares d2.keys d2.heard) => pSamePlayer_p d2 x y W h h')
  have P3 := Lib.hid (fun (W : World) (x y : PlX) (h : PlR W x r1.shares r1.keys r1.heard) (h' : PlR W y r1.shares r1.keys r1.heard) => pSamePlayer_p r1 x y W h h')
  have P4 := Lib.hid (fun (W : World) (x y : PlX) (h : PlR W x r2.shares r2.keys r2.heard) (h' : PlR W y r2.shares r2.keys r2.heard) => pSamePlayer_p r2 x y W h h')
  replace HL := Lib.hid HL
  replace CD := Lib.hid CD
  replace CE := Lib.hid CE
  replace CR := Lib.hid CR
  replace CS := Lib.hid CS
  go_enter Tryd.func7, Tryd.ntmps7
  go_wp2_with fail
  refine (CD.out _).mono ?_
  rintro e w1' ⟨xa, FA, xb, FB, rfl, oa, ob, dab, u_w1'⟩
  have S_w1' := u_w1'.size
  have V_w1' : Below w.heap.size w w1' := (Below.refl w.heap.size w).trans (u_w1'.mono (Below.refl w.heap.size w).size)
  clear u_w1'
  have Q_oa := Lib.hid oa.feet
  have Q_ob := Lib.hid ob.feet
  go_upto_region 2 with fail
  refine Exists.elim (Blk.new_ w1' (b := w1'.heap.size) rfl 31 #[.int .i64 d1.P, .int .i64 d1.party, .int .i64 d1.input, .int .i64 d1.mask, .int .i64 d1.delta, .slice xa.sa xa.sn xa.sc, .slice xa.ka xa.kn xa.kc, .int .i64 d1.step, .slice xa.ha xa.hn xa.hc, .int .i64 d1.status, .int .i64 d1.out]) (fun w2_a0' q => ?_)
  rw [q.1]; have B_a := q.2.1; have s_w2_a0' := q.2.2.1; have u_w2_a0' := q.2.2.2; clear q
  refine Exists.elim (Blk.new_ w2_a0' (b := w1'.heap.size + 1) s_w2_a0' 31 #[.int .i64 d2.P, .int .i64 d2.party, .int .i64 d2.input, .int .i64 d2.mask, .int .i64 d2.delta, .slice xb.sa xb.sn xb.sc, .slice xb.ka xb.kn xb.kc, .int .i64 d2.step, .slice xb.ha xb.hn xb.hc, .int .i64 d2.status, .int .i64 d2.out]) (fun w2' q => ?_)
  rw [q.1]; have B_b := q.2.1; have s_w2' := q.2.2.1; have u_w2' := q.2.2.2; clear q
  replace B_a := (B_a.below u_w2')
  have U := (u_w2_a0'.trans (u_w2'.mono u_w2_a0'.size))
  replace oa := oa.below U
  replace ob := ob.below U
  have S_w2' : w1'.heap.size + 2 ≤ w2'.heap.size := Nat.le_of_eq s_w2'.symm
  have V_w2' := V_w1'.trans (U.mono (V_w1').size)
  clear u_w2_a0' u_w2' s_w2_a0' s_w2' U V_w1'
  go_wp2_with fail
  refine (CE.out _).mono ?_
  rintro e w3' ⟨xc, FC, xd, FD, rfl, oc, od, dcd, u_w3'⟩
  replace B_a := B_a.below u_w3'
  replace B_b := B_b.below u_w3'
  replace oa := oa.below u_w3'
  replace ob := ob.below u_w3'
  have S_w3' := u_w3'.size
  have V_w3' : Below w.heap.size w w3' := V_w2'.trans (u_w3'.mono V_w2'.size)
  clear V_w2'
  clear u_w3'
  have Q_oc := Lib.hid oc.feet
  have Q_od := Lib.hid od.feet
  go_upto_region 3 with fail
  refine Exists.elim (Blk.new_ w3' (b := w3'.heap.size) rfl 31 #[.int .i64 d1.P, .int .i64 d1.party, .int .i64 d1.input, .int .i64 d1.mask, .int .i64 d1.delta, .slice xc.sa xc.sn xc.sc, .slice xc.ka xc.kn xc.kc, .int .i64 d1.step, .slice xc.ha xc.hn xc.hc, .int .i64 d1.status, .int .i64 d1.out]) (fun w4_a0' q => ?_)
  rw [q.1]; have B_c := q.2.1; have s_w4_a0' := q.2.2.1; have u_w4_a0' := q.2.2.2; clear q
  refine Exists.elim (Blk.new_ w4_a0' (b := w3'.heap.size + 1) s_w4_a0' 31 #[.int .i64 d2.P, .int .i64 d2.party, .int .i64 d2.input, .int .i64 d2.mask, .int .i64 d2.delta, .slice xd.sa xd.sn xd.sc, .slice xd.ka xd.kn xd.kc, .int .i64 d2.step, .slice xd.ha xd.hn xd.hc, .int .i64 d2.status, .int .i64 d2.out]) (fun w4' q => ?_)
  rw [q.1]; have B_d := q.2.1; have s_w4' := q.2.2.1; have u_w4' := q.2.2.2; clear q
  replace B_c := (B_c.below u_w4')
  have U := (u_w4_a0'.trans (u_w4'.mono u_w4_a0'.size))
  replace B_a := B_a.below U
  replace B_b := B_b.below U
  replace oa := oa.below U
  replace ob := ob.below U
  replace oc := oc.below U
  replace od := od.below U
  have S_w4' : w3'.heap.size + 2 ≤ w4'.heap.size := Nat.le_of_eq s_w4'.symm
  have V_w4' := V_w3'.trans (U.mono (V_w3').size)
  clear u_w4_a0' u_w4' s_w4_a0' s_w4' U V_w3'
  have e_a := B_a.all11
  have e_c := B_c.all11
  go_wp2_with fail
  clear e_a e_c
  refine (P1.out _ _ _ oa.rd oc.rd).mono ?_
  rintro e w5' ⟨rfl, u_w5'⟩
  replace B_a := B_a.below u_w5'
  replace B_b := B_b.below u_w5'
  replace B_c := B_c.below u_w5'
  replace B_d := B_d.below u_w5'
  replace oa := oa.below u_w5'
  replace ob := ob.below u_w5'
  replace oc := oc.below u_w5'
  replace od := od.below u_w5'
  have S_w5' := u_w5'.size
  have V_w5' : Below w.heap.size w w5' := V_w4'.trans (u_w5'.mono V_w4'.size)
  clear V_w4'
  clear u_w5'
  have e_b := B_b.all11
  have e_d := B_d.all11
  go_wp2_with fail
  clear e_b e_d
  refine (P2.out _ _ _ ob.rd od.rd).mono ?_
  rintro e w6' ⟨rfl, u_w6'⟩
  replace B_a := B_a.below u_w6'
  replace B_b := B_b.below u_w6'
  replace B_c := B_c.below u_w6'
  replace B_d := B_d.below u_w6'
  replace oa := oa.below u_w6'
  replace ob := ob.below u_w6'
  replace oc := oc.below u_w6'
  replace od := od.below u_w6'
  have S_w6' := u_w6'.size
  have V_w6' : Below w.heap.size w w6' := V_w5'.trans (u_w6'.mono V_w5'.size)
  clear V_w5'
  clear u_w6'
  cases db
  · go_wp2
    go_ret
    exact ⟨rfl, V_w6'⟩
  have e_a := B_a.all11
  have e_b := B_b.all11
  go_wp2_with fail
  clear e_a e_b
  refine (CR.out _ _ _ oa.rd ob.rd (LX.out.below V_w6')).mono ?_
  rintro e w7' ⟨xg, FG, xh, FH, rfl, og, oh, dgh, u_w7'⟩
  replace B_a := B_a.below u_w7'
  replace B_b := B_b.below u_w7'
  replace B_c := B_c.below u_w7'
  replace B_d := B_d.below u_w7'
  replace oa := oa.below u_w7'
  replace ob := ob.below u_w7'
  replace oc := oc.below u_w7'
  replace od := od.below u_w7'
  have S_w7' := u_w7'.size
  have V_w7' : Below w.heap.size w w7' := V_w6'.trans (u_w7'.mono V_w6'.size)
  clear V_w6'
  clear u_w7'
  have Q_og := Lib.hid og.feet
  have Q_oh := Lib.hid oh.feet
  clear oa
  clear ob
  clear B_a
  clear B_b
  go_upto_region 8 with fail
  refine Exists.elim (Blk.new_ w7' (b := w7'.heap.size) rfl 31 #[.int .i64 r1.P, .int .i64 r1.party, .int .i64 r1.input, .int .i64 r1.mask, .int .i64 r1.delta, .slice xg.sa xg.sn xg.sc, .slice xg.ka xg.kn xg.kc, .int .i64 r1.step, .slice xg.ha xg.hn xg.hc, .int .i64 r1.status, .int .i64 r1.out]) (fun w8_a0' q => ?_)
  rw [q.1]; have B_g := q.2.1; have s_w8_a0' := q.2.2.1; have u_w8_a0' := q.2.2.2; clear q
  refine Exists.elim (Blk.new_ w8_a0' (b := w7'.heap.size + 1) s_w8_a0' 31 #[.int .i64 r2.P, .int .i64 r2.party, .int .i64 r2.input, .int .i64 r2.mask, .int .i64 r2.delta, .slice xh.sa xh.sn xh.sc, .slice xh.ka xh.kn xh.kc, .int .i64 r2.step, .slice xh.ha xh.hn xh.hc, .int .i64 r2.status, .int .i64 r2.out]) (fun w8' q => ?_)
  rw [q.1]; have B_h := q.2.1; have s_w8' := q.2.2.1; have u_w8' := q.2.2.2; clear q
  replace B_g := (B_g.below u_w8')
  have U := (u_w8_a0'.trans (u_w8'.mono u_w8_a0'.size))
  replace B_c := B_c.below U
  replace B_d := B_d.below U
  replace oc := oc.below U
  replace od := od.below U
  replace og := og.below U
  replace oh := oh.below U
  have S_w8' : w7'.heap.size + 2 ≤ w8'.heap.size := Nat.le_of_eq s_w8'.symm
  have V_w8' := V_w7'.trans (U.mono (V_w7').size)
  clear u_w8_a0' u_w8' s_w8_a0' s_w8' U V_w7'
  have e_c := B_c.all11
  have e_d := B_d.all11
  go_wp2_with fail
  clear e_c e_d
  refine (CS.out _ _ _ oc.rd od.rd (LX.out.below V_w8')).mono ?_
  rintro e w9' ⟨xi, FI, xj, FJ, rfl, oi, oj, dij, u_w9'⟩
  replace B_c := B_c.below u_w9'
  replace B_d := B_d.below u_w9'
  replace B_g := B_g.below u_w9'
  replace B_h := B_h.below u_w9'
  replace oc := oc.below u_w9'
  replace od := od.below u_w9'
  replace og := og.below u_w9'
  replace oh := oh.below u_w9'
  have S_w9' := u_w9'.size
  have V_w9' : Below w.heap.size w w9' := V_w8'.trans (u_w9'.mono V_w8'.size)
  clear V_w8'
  clear u_w9'
  have Q_oi := Lib.hid oi.feet
  have Q_oj := Lib.hid oj.feet
  clear oc
  clear od
  clear B_c
  clear B_d
  go_upto_region 9 with fail
  refine Exists.elim (Blk.new_ w9' (b := w9'.heap.size) rfl 31 #[.int .i64 r1.P, .int .i64 r1.party, .int .i64 r1.input, .int .i64 r1.mask, .int .i64 r1.delta, .slice xi.sa xi.sn xi.sc, .slice xi.ka xi.kn xi.kc, .int .i64 r1.step, .slice xi.ha xi.hn xi.hc, .int .i64 r1.status, .int .i64 r1.out]) (fun w10_a0' q => ?_)
  rw [q.1]; have B_i := q.2.1; have s_w10_a0' := q.2.2.1; have u_w10_a0' := q.2.2.2; clear q
  refine Exists.elim (Blk.new_ w10_a0' (b := w9'.heap.size + 1) s_w10_a0' 31 #[.int .i64 r2.P, .int .i64 r2.party, .int .i64 r2.input, .int .i64 r2.mask, .int .i64 r2.delta, .slice xj.sa xj.sn xj.sc, .slice xj.ka xj.kn xj.kc, .int .i64 r2.step, .slice xj.ha xj.hn xj.hc, .int .i64 r2.status, .int .i64 r2.out]) (fun w10' q => ?_)
  rw [q.1]; have B_j := q.2.1; have s_w10' := q.2.2.1; have u_w10' := q.2.2.2; clear q
  replace B_i := (B_i.below u_w10')
  have U := (u_w10_a0'.trans (u_w10'.mono u_w10_a0'.size))
  replace B_g := B_g.below U
  replace B_h := B_h.below U
  replace og := og.below U
  replace oh := oh.below U
  replace oi := oi.below U
  replace oj := oj.below U
  have S_w10' : w9'.heap.size + 2 ≤ w10'.heap.size := Nat.le_of_eq s_w10'.symm
  have V_w10' := V_w9'.trans (U.mono (V_w9').size)
  clear u_w10_a0' u_w10' s_w10_a0' s_w10' U V_w9'
  have e_g := B_g.all11
  have e_i := B_i.all11
  go_wp2_with fail
  clear e_g e_i
  refine (P3.out _ _ _ og.rd oi.rd).mono ?_
  rintro e w11' ⟨rfl, u_w11'⟩
  replace B_g := B_g.below u_w11'
  replace B_h := B_h.below u_w11'
  replace B_i := B_i.below u_w11'
  replace B_j := B_j.below u_w11'
  replace og := og.below u_w11'
  replace oh := oh.below u_w11'
  replace oi := oi.below u_w11'
  replace oj := oj.below u_w11'
  have S_w11' := u_w11'.size
  have V_w11' : Below w.heap.size w w11' := V_w10'.trans (u_w11'.mono V_w10'.size)
  clear V_w10'
  clear u_w11'
  have e_h := B_h.all11
  have e_j := B_j.all11
  go_wp2_with fail
  clear e_h e_j
  refine (P4.out _ _ _ oh.rd oj.rd).mono ?_
  rintro e w12' ⟨rfl, u_w12'⟩
  replace B_g := B_g.below u_w12'
  replace B_h := B_h.below u_w12'
  replace B_i := B_i.below u_w12'
  replace B_j := B_j.below u_w12'
  replace og := og.below u_w12'
  replace oh := oh.below u_w12'
  replace oi := oi.below u_w12'
  replace oj := oj.below u_w12'
  have S_w12' := u_w12'.size
  have V_w12' : Below w.heap.size w w12' := V_w11'.trans (u_w12'.mono V_w11'.size)
  clear V_w11'
  clear u_w12'
  clear oi
  clear oj
  clear B_i
  clear B_j
  clear og
  clear oh
  cases rb
  · go_wp2
    go_ret
    exact ⟨rfl, V_w12'⟩
  obtain ⟨f1, f2, f3, k0, p0, x0, y0⟩ := HL.out (by simp) (by simp)
  have m0 : 0 ≤ a2 * a3 := Int.mul_nonneg x0.1 y0.1
  have m1 : a2 * a3 ≤ 251 * 251 := Int.mul_le_mul (by omega) (by omega) y0.1 (by omega)
  have tz : IntKind.i64.wrap (a2 * a3) = a2 * a3 := IntWalk.i64_in _ (by omega)
  obtain ⟨z, hz⟩ : ∃ z, z = a2 * a3 % a0 := ⟨_, rfl⟩
  rw [← hz] at f1 f2
  have tm : (a2 * a3).tmod a0 = z := by rw [hz]; exact Int.tmod_eq_emod_of_nonneg m0
  clear hz
  have tk : a6.tmod a0 = a6 := by rw [Int.tmod_eq_emod_of_nonneg k0.1, Int.emod_eq_of_lt k0.1 (by omega)]
  have n0 : ¬ a0 = 0 := by omega
  have n1 : ((a0 : Int) = 0) = False := eq_false n0
  have F := Lib.hid (And.intro f1 (And.intro f2 f3))
  clear f1 f2 f3 m0 m1 k0 p0 x0 y0
  have e_g_9 := B_g.a11_9
  have e_g_10 := B_g.a11_10
  have e_h_9 := B_h.a11_9
  have e_h_10 := B_h.a11_10
  generalize r1.status = s1 at *
  generalize r1.out = q1 at *
  generalize r2.status = s2 at *
  generalize r2.out = q2 at *
  have e00 : ((z != z) : Bool) = false := by simp
  by_cases hk : a6 = 0
  · obtain ⟨g1, g2⟩ := F.out.2.2 hk
    subst g1 g2
    obtain rfl := F.out.1 rfl
    obtain rfl := F.out.2.1 rfl
    subst hk
    go_wp2
    go_quiet (fail)
    go_wp2
    go_ret
    exact ⟨rfl, below_drewN V_w12' _⟩
  · have dk : ((a6 != 0) : Bool) = true := by simpa using hk
    by_cases h1 : s1 = 1
    · subst h1
      obtain rfl := F.out.1 rfl
      by_cases h2 : s2 = 1
      · subst h2
        obtain rfl := F.out.2.1 rfl
        go_wp2
        go_quiet (fail)
        go_wp2
        go_ret
        exact ⟨rfl, below_drewN V_w12' _⟩
      · have e2 : ((s2 == 1) : Bool) = false := by simpa using h2
        go_wp2
        go_quiet (fail)
        go_wp2
        go_ret
        exact ⟨rfl, below_drewN V_w12' _⟩
    · have e1 : ((s1 == 1) : Bool) = false := by simpa using h1
      by_cases h2 : s2 = 1
      · subst h2
        obtain rfl := F.out.2.1 rfl
        go_wp2
        go_quiet (fail)
        go_wp2
        go_ret
        exact ⟨rfl, below_drewN V_w12' _⟩
      · have e2 : ((s2 == 1) : Bool) = false := by simpa using h2
        go_wp2
        go_quiet (fail)
        go_wp2
        go_ret
        exact ⟨rfl, below_drewN V_w12' _⟩
end Go.Proofs.YtlmdckcohoddnaaDoor
