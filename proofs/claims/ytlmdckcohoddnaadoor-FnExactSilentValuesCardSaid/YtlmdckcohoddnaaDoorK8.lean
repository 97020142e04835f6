/- Lemmas and walks that the claim's proof rests on, part 8. -/
import Derived.Test.YtlmdckcohoddnaaDoorK7
namespace Go.Proofs.YtlmdckcohoddnaaDoor
open Go.RowKit
set_option maxHeartbeats 8000000 in
set_option maxRecDepth 100000 in
theorem ptSums_any (a : Pl) (x : PlX) (w : World) (h : PlR w x a.shares a.keys a.heard) (hN : PlN a) (hs : 2 ≤ a.step) :
    Calls Tryd.prog 141 #[.agg #[.int .i64 a.P, .int .i64 a.party, .int .i64 a.input, .int .i64 a.mask, .int .i64 a.delta, .slice x.sa x.sn x.sc, .slice x.ka x.kn x.kc, .int .i64 a.step, .slice x.ha x.hn x.hc, .int .i64 a.status, .int .i64 a.out]] w fun e w' => e = .returned (.tuple #[.int .i64 (dI a), .int .i64 (eI a)]) ∧ Below w.heap.size w w' := by
  have hp1 := hN.p1
  have hp2 := hN.p2
  have hlen := hN.hl
  have hd0 := (hN.hb 1 (by omega)).2 0 (by decide)
  have hd2 := (hN.hb 1 (by omega)).2 2 (by decide)
  have v0 := cmb_rng a.P (shV a) 1 0 (-1) 0 0 (mor a (f0 a)) (by omega)
  have v1 := cmb_rng a.P (shV a) 0 1 0 (-1) 0 (mor a (f1 a)) (by omega)
  change 0 ≤ seV0 a ∧ seV0 a ≤ a.P - 1 at v0
  change 0 ≤ seV1 a ∧ seV1 a ≤ a.P - 1 at v1
  have CF := Lib.hid (fun (W : World) (h2 : PlR W x a.shares a.keys a.heard) => ptSecond_any a x W h2 hN (by omega))
  obtain ⟨hhn, g, o, r, hx, e0, inn, hr⟩ := h.hd 1 (by omega)
  have hrl := (hN.hb 1 (by omega)).1
  rw [← hr] at hrl
  have hrl' : r.2.2.length = 4 := hrl
  obtain ⟨g2, o2, hr1, e1⟩ := inn.at 0 (by omega)
  obtain ⟨g3, o3, hr3, e3⟩ := inn.at 2 (by omega)
  rw [hr1] at hr3
  cases hr3
  have hv : r.2.2.getD 0 0 = hdI a 1 0 := by rw [hr]; rfl
  have hv3 : r.2.2.getD 2 0 = hdI a 1 2 := by rw [hr]; rfl
  rw [hv] at e1
  rw [hv3] at e3
  rw [hr1, hrl'] at e0
  have hnp : (1 : Int) < (x.hn : Int) := by omega
  have LH := Lib.hid h
  clear hr hrl hrl' hr1 hv hv3 inn hhn hlen hN hs h
  simp only [Nat.add_zero] at e1
  obtain ⟨x_sa, x_sn, x_sc, x_ka, x_kn, x_kc, x_ha, x_hn, x_hc⟩ := x
  dsimp only at *
  subst hx
  have HD : Hid ((seV0 a + hdI a 1 0) % a.P = dI a) := Lib.hid rfl
  have HE : Hid ((seV1 a + hdI a 1 2) % a.P = eI a) := Lib.hid rfl
  generalize dI a = D at *
  generalize eI a = EE at *
  generalize hdI a 1 0 = y0 at *
  generalize hdI a 1 2 = y2 at *
  generalize seV0 a = z0 at *
  generalize seV1 a = z1 at *
  generalize seT0 a = s0 at *
  generalize seT1 a = s1 at *
  have t1 : IntKind.i64.wrap (z0 + y0) = z0 + y0 := IntWalk.i64_in _ (by omega)
  have t2 : IntKind.i64.wrap (z1 + y2) = z1 + y2 := IntWalk.i64_in _ (by omega)
  have t3 : (z0 + y0).tmod a.P = D := by rw [← HD.out]; exact Int.tmod_eq_emod_of_nonneg (by omega)
  have t4 : (z1 + y2).tmod a.P = EE := by rw [← HE.out]; exact Int.tmod_eq_emod_of_nonneg (by omega)
  have r1 : 0 ≤ D ∧ D ≤ a.P - 1 := by rw [← HD.out]; exact emod_rng _ _ (by omega)
  have r2 : 0 ≤ EE ∧ EE ≤ a.P - 1 := by rw [← HE.out]; exact emod_rng _ _ (by omega)
  have t5 : IntKind.i64.wrap D = D := IntWalk.i64_in _ (by omega)
  have t6 : IntKind.i64.wrap EE = EE := IntWalk.i64_in _ (by omega)
  have t7 : (a.P == 0) = false := by simp; omega
  have t8 : (a.P = 0) = False := by simp; omega
  clear HD HE hd0 hd2 v0 v1
  go_enter Tryd.func141, Tryd.ntmps141
  go_wp2_with fail
  refine Exists.elim (Blk.new_ w (b := w.heap.size) rfl 31 #[.int .i64 a.P, .int .i64 a.party, .int .i64 a.input, .int .i64 a.mask, .int .i64 a.delta, .slice x_sa x_sn x_sc, .slice x_ka x_kn x_kc, .int .i64 a.step, .slice (some ⟨g, o, none⟩) x_hn x_hc, .int .i64 a.status, .int .i64 a.out]) (fun w1' q => ?_)
  rw [q.1]; have B_a := q.2.1; have s_w1' := q.2.2.1; have u_w1' := q.2.2.2; clear q
  have S_w1' : w.heap.size + 1 ≤ w1'.heap.size := Nat.le_of_eq s_w1'.symm
  have V_w1' := (Below.refl w.heap.size w).trans (u_w1'.mono ((Below.refl w.heap.size w)).size)
  clear u_w1' s_w1'
  refine (CF.out _ (LH.out.below V_w1')).mono ?_
  rintro e w2' ⟨bf, cf, rfl, hf, u_w2'⟩
  replace B_a := B_a.below u_w2'
  have S_w2' := u_w2'.size
  have V_w2' : Below w.heap.size w w2' := V_w1'.trans (u_w2'.mono V_w1'.size)
  clear V_w1'
  clear u_w2'
  obtain ⟨gf, of, rfl, hfc⟩ := hf.at (by omega)
  have c0 : w2'.cell? ⟨gf, of, none⟩ = some (.int .i64 z0) := hfc 0 (by omega)
  have c2 : w2'.cell? ⟨gf, of + 2, none⟩ = some (.int .i64 z1) := hfc 2 (by omega)
  clear hfc hf
  have e_a_0 := B_a.a11_0
  have e_a_1 := B_a.a11_1
  have e_a_2 := B_a.a11_2
  have e_a_3 := B_a.a11_3
  have e_a_4 := B_a.a11_4
  have e_a_5 := B_a.a11_5
  have e_a_6 := B_a.a11_6
  have e_a_7 := B_a.a11_7
  have e_a_8 := B_a.a11_8
  have e_a_9 := B_a.a11_9
  have e_a_10 := B_a.a11_10
  have k0 := keepC V_w2' e0
  have k1 := keepC V_w2' e1
  have k3 := keepC V_w2' e3
  go_wp2
  first | (go_quiet (fail); go_wp2) | skip
  go_ret2
  first | exact ⟨rfl, V_w2'⟩ | exact ⟨rfl, below_drewN V_w2' _⟩
set_option maxHeartbeats 16000000 in
set_option maxRecDepth 100000 in
theorem ptThird_any (a : Pl) (x : PlX) (w : World) (h : PlR w x a.shares a.keys a.heard) (hN : PlN a) (hs : 2 ≤ a.step) :
    Calls Tryd.prog 122 #[.agg #[.int .i64 a.P, .int .i64 a.party, .int .i64 a.input, .int .i64 a.mask, .int .i64 a.delta, .slice x.sa x.sn x.sc, .slice x.ka x.kn x.kc, .int .i64 a.step, .slice x.ha x.hn x.hc, .int .i64 a.status, .int .i64 a.out]] w fun e w' => e = .returned (.agg #[.int .i64 (thV a), .int .i64 (thT a)]) ∧ Below w.heap.size w w' := by
  have hp1 := hN.p1
  have hp2 := hN.p2
  have rd := dI_rng hN
  have re := eI_rng hN
  have m1 : 0 ≤ dI a * eI a := Int.mul_nonneg rd.1 re.1
  have m2 : dI a * eI a ≤ 1000 * 1000 := Int.mul_le_mul (by omega) (by omega) re.1 (by omega)
  have CF := Lib.hid (fun (W : World) (h2 : PlR W x a.shares a.keys a.heard) => ptSums_any a x W h2 hN hs)
  have X1r := emod_rng (shV a 4 + dI a * shV a 3) a.P (by omega)
  have Y1r := emod_rng (shT a 4 + dI a * shT a 3) a.P (by omega)
  have X2r := emod_rng ((shV a 4 + dI a * shV a 3) % a.P + eI a * shV a 2) a.P (by omega)
  have D2r := emod_rng (dI a * eI a) a.P (by omega)
  have K1 := Lib.hid (fun (W : World) => tgAdd_any a.P (shV a 4) (shT a 4) (shV a 3) (shT a 3) (dI a) W (by omega) (by omega) (hN.sv 4 (by omega)) (hN.st 4 (by omega)) (hN.sv 3 (by omega)) (hN.st 3 (by omega)) rd)
  have K2 := Lib.hid (fun (W : World) => tgAdd_any a.P ((shV a 4 + dI a * shV a 3) % a.P) ((shT a 4 + dI a * shT a 3) % a.P) (shV a 2) (shT a 2) (eI a) W (by omega) (by omega) X1r Y1r (hN.sv 2 (by omega)) (hN.st 2 (by omega)) re)
  have K3 := Lib.hid (fun (W : World) => (show Calls Tryd.prog 143 #[.agg #[.int .i64 a.P, .int .i64 a.party, .int .i64 a.input, .int .i64 a.mask, .int .i64 a.delta, .slice x.sa x.sn x.sc, .slice x.ka x.kn x.kc, .int .i64 a.step, .slice x.ha x.hn x.hc, .int .i64 a.status, .int .i64 a.out], .agg #[.int .i64 (((shV a 4 + dI a * shV a 3) % a.P + eI a * shV a 2) % a.P), .int .i64 (((shT a 4 + dI a * shT a 3) % a.P + eI a * shT a 2) % a.P)], .int .i64 (dI a * eI a % a.P)] W fun e w' => e = .returned (.agg #[.int .i64 (thV a), .int .i64 (thT a)]) ∧ Below W.heap.size W w' by rw [← thV_eq hN, ← thT_eq]; exact ptShift_any a x _ _ _ W hN (by omega) (by omega)))
  have t1 : IntKind.i64.wrap (dI a * eI a) = dI a * eI a := IntWalk.i64_in _ (by omega)
  have t2 : (dI a * eI a).tmod a.P = dI a * eI a % a.P := Int.tmod_eq_emod_of_nonneg (by omega)
  have t3 : IntKind.i64.wrap (dI a * eI a % a.P) = dI a * eI a % a.P := IntWalk.i64_in _ (by omega)
  have t7 : (a.P == 0) = false := by simp; omega
  have t8 : (a.P = 0) = False := by simp; omega
  have LH := Lib.hid h
  obtain ⟨hS, _⟩ := h
  have hs5 : x.sn = 5 := by have := hS.len; have := hN.sl; omega
  obtain ⟨gs, os, hsa, hc⟩ := hS.at (by omega)
  have y4 : w.cell? ⟨gs, os + 4, none⟩ = some (.int .i64 (shV a 2)) := hc 4 (by omega)
  have y5 : w.cell? ⟨gs, os + 5, none⟩ = some (.int .i64 (shT a 2)) := hc 5 (by omega)
  have y6 : w.cell? ⟨gs, os + 6, none⟩ = some (.int .i64 (shV a 3)) := hc 6 (by omega)
  have y7 : w.cell? ⟨gs, os + 7, none⟩ = some (.int .i64 (shT a 3)) := hc 7 (by omega)
  have y8 : w.cell? ⟨gs, os + 8, none⟩ = some (.int .i64 (shV a 4)) := hc 8 (by omega)
  have y9 : w.cell? ⟨gs, os + 9, none⟩ = some (.int .i64 (shT a 4)) := hc 9 (by omega)
  clear hc hS hN hs X1r Y1r X2r D2r m1 m2 rd re
  obtain ⟨x_sa, x_sn, x_sc, x_ka, x_kn, x_kc, x_ha, x_hn, x_hc⟩ := x
  dsimp only at *
  subst hsa
  subst hs5
  generalize dI a * eI a % a.P = DE at *
  generalize shV a 4 = v4 at *
  generalize shT a 4 = w4 at *
  generalize shV a 3 = v3 at *
  generalize shT a 3 = w3 at *
  generalize shV a 2 = v2 at *
  generalize shT a 2 = w2 at *
  generalize (v4 + dI a * v3) % a.P = X1 at *
  generalize (w4 + dI a * w3) % a.P = Y1 at *
  generalize (X1 + eI a * v2) % a.P = X2 at *
  generalize (Y1 + eI a * w2) % a.P = Y2 at *
  generalize thV a = zv at *
  generalize thT a = zt at *
  generalize dI a = D at *
  generalize eI a = EE at *
  go_enter Tryd.func122, Tryd.ntmps122
  go_wp2_with fail
  refine Exists.elim (Blk.new_ w (b := w.heap.size) rfl 31 #[.int .i64 a.P, .int .i64 a.party, .int .i64 a.input, .int .i64 a.mask, .int .i64 a.delta, .slice (some ⟨gs, os, none⟩) 5 x_sc, .slice x_ka x_kn x_kc, .int .i64 a.step, .slice x_ha x_hn x_hc, .int .i64 a.status, .int .i64 a.out]) (fun w1_a0' q => ?_)
  rw [q.1]; have B_a := q.2.1; have s_w1_a0' := q.2.2.1; have u_w1_a0' := q.2.2.2; clear q
  refine Exists.elim (Blk.new_ w1_a0' (b := w.heap.size + 1) s_w1_a0' 81 #[.int .i64 0, .int .i64 0]) (fun w1' q => ?_)
  rw [q.1]; have B_r := q.2.1; have s_w1' := q.2.2.1; have u_w1' := q.2.2.2; clear q
  replace B_a := (B_a.below u_w1')
  have U := (u_w1_a0'.trans (u_w1'.mono u_w1_a0'.size))
  have S_w1' : w.heap.size + 2 ≤ w1'.heap.size := Nat.le_of_eq s_w1'.symm
  have V_w1' := (Below.refl w.heap.size w).trans (U.mono ((Below.refl w.heap.size w)).size)
  clear u_w1_a0' u_w1' s_w1_a0' s_w1' U
  refine (CF.out _ (LH.out.below V_w1')).mono ?_
  rintro e w2' ⟨rfl, u_w2'⟩
  replace B_a := B_a.below u_w2'
  replace B_r := B_r.below u_w2'
  have S_w2' := u_w2'.size
  have V_w2' : Below w.heap.size w w2' := V_w1'.trans (u_w2'.mono V_w1'.size)
  clear V_w1'
  clear u_w2'
  go_wp2
  have SB := V_w2'.size
  have e_a_0 := B_a.a11_0
  have e_a_1 := B_a.a11_1
  have e_a_2 := B_a.a11_2
  have e_a_3 := B_a.a11_3
  have e_a_4 := B_a.a11_4
  have e_a_5 := B_a.a11_5
  have e_a_6 := B_a.a11_6
  have e_a_7 := B_a.a11_7
  have e_a_8 := B_a.a11_8
  have e_a_9 := B_a.a11_9
  have e_a_10 := B_a.a11_10
  have p6 := keepC V_w2' y6
  have p7 := keepC V_w2' y7
  have p8 := keepC V_w2' y8
  have p9 := keepC V_w2' y9
  go_region_held3 (fun W => W.cell? ⟨w.heap.size, 0, none⟩ = some (.int .i64 a.P) ∧ W.cell? ⟨w.heap.size, 1, none⟩ = some (.int .i64 a.party) ∧ W.cell? ⟨w.heap.size, 2, none⟩ = some (.int .i64 a.input) ∧ W.cell? ⟨w.heap.size, 3, none⟩ = some (.int .i64 a.mask) ∧ W.cell? ⟨w.heap.size, 4, none⟩ = some (.int .i64 a.delta) ∧ W.cell? ⟨w.heap.size, 5, none⟩ = some (.slice (some ⟨gs, os, none⟩) 5 x_sc) ∧ W.cell? ⟨w.heap.size, 6, none⟩ = some (.slice x_ka x_kn x_kc) ∧ W.cell? ⟨w.heap.size, 7, none⟩ = some (.int .i64 a.step) ∧ W.cell? ⟨w.heap.size, 8, none⟩ = some (.slice x_ha x_hn x_hc) ∧ W.cell? ⟨w.heap.size, 9, none⟩ = some (.int .i64 a.status) ∧ W.cell? ⟨w.heap.size, 10, none⟩ = some (.int .i64 a.out) ∧ W.cell? ⟨gs, os + 8, none⟩ = some (.int .i64 v4) ∧ W.cell? ⟨gs, os + 9, none⟩ = some (.int .i64 w4) ∧ W.cell? ⟨gs, os + 6, none⟩ = some (.int .i64 v3) ∧ W.cell? ⟨gs, os + 7, none⟩ = some (.int .i64 w3))
    (first | exact ⟨e_a, p8, p9, p6, p7⟩ | exact ⟨keepA _ e_a_0, keepA _ e_a_1, keepA _ e_a_2, keepA _ e_a_3, keepA _ e_a_4, keepA _ e_a_5, keepA _ e_a_6, keepA _ e_a_7, keepA _ e_a_8, keepA _ e_a_9, keepA _ e_a_10, keepA _ p8, keepA _ p9, keepA _ p6, keepA _ p7⟩ | exact ⟨keepC u (keepA _ e_a_0), keepC u (keepA _ e_a_1), keepC u (keepA _ e_a_2), keepC u (keepA _ e_a_3), keepC u (keepA _ e_a_4), keepC u (keepA _ e_a_5), keepC u (keepA _ e_a_6), keepC u (keepA _ e_a_7), keepC u (keepA _ e_a_8), keepC u (keepA _ e_a_9), keepC u (keepA _ e_a_10), keepC u (keepA _ p8), keepC u (keepA _ p9), keepC u (keepA _ p6), keepC u (keepA _ p7)⟩ | exact ⟨keepC u e_a_0, keepC u e_a_1, keepC u e_a_2, keepC u e_a_3, keepC u e_a_4, keepC u e_a_5, keepC u e_a_6, keepC u e_a_7, keepC u e_a_8, keepC u e_a_9, keepC u e_a_10, keepC u p8, keepC u p9, keepC u p6, keepC u p7⟩ | exact ⟨keepA _ (keepC u e_a_0), keepA _ (keepC u e_a_1), keepA _ (keepC u e_a_2), keepA _ (keepC u e_a_3), keepA _ (keepC u e_a_4), keepA _ (keepC u e_a_5), keepA _ (keepC u e_a_6), keepA _ (keepC u e_a_7), keepA _ (keepC u e_a_8), keepA _ (keepC u e_a_9), keepA _ (keepC u e_a_10), keepA _ (keepC u p8), keepA _ (keepC u p9), keepA _ (keepC u p6), keepA _ (keepC u p7)⟩ | exact ⟨keepS e_a_0 _ _ (keepS e_a_0 _ _ (keepC u (keepA _ e_a_0))), keepS e_a_1 _ _ (keepS e_a_1 _ _ (keepC u (keepA _ e_a_1))), keepS e_a_2 _ _ (keepS e_a_2 _ _ (keepC u (keepA _ e_a_2))), keepS e_a_3 _ _ (keepS e_a_3 _ _ (keepC u (keepA _ e_a_3))), keepS e_a_4 _ _ (keepS e_a_4 _ _ (keepC u (keepA _ e_a_4))), keepS e_a_5 _ _ (keepS e_a_5 _ _ (keepC u (keepA _ e_a_5))), keepS e_a_6 _ _ (keepS e_a_6 _ _ (keepC u (keepA _ e_a_6))), keepS e_a_7 _ _ (keepS e_a_7 _ _ (keepC u (keepA _ e_a_7))), keepS e_a_8 _ _ (keepS e_a_8 _ _ (keepC u (keepA _ e_a_8))), keepS e_a_9 _ _ (keepS e_a_9 _ _ (keepC u (keepA _ e_a_9))), keepS e_a_10 _ _ (keepS e_a_10 _ _ (keepC u (keepA _ e_a_10))), keepS p8 _ _ (keepS p8 _ _ (keepC u (keepA _ p8))), keepS p9 _ _ (keepS p9 _ _ (keepC u (keepA _ p9))), keepS p6 _ _ (keepS p6 _ _ (keepC u (keepA _ p6))), keepS p7 _ _ (keepS p7 _ _ (keepC u (keepA _ p7)))⟩ | go_keep)
    (first | (go_at_call 142; refine (K1.out _).mono ?_; rintro e wz ⟨rfl, u⟩; have BO : Blk wz w2'.heap.size 81 #[.int .i64 0, .int .i64 0] := Blk.below (Blk.new w2' 81 #[.int .i64 0, .int .i64 0]).drew u; have bo0 : wz.cell? ⟨w2'.heap.size, 0, none⟩ = some (.int .i64 0) := BO.cell 0; have bf0 : wz.frozen? ⟨w2'.heap.size, 0, none⟩ = false := BO.frozen 0; have bo1 : wz.cell? ⟨w2'.heap.size, 1, none⟩ = some (.int .i64 0) := BO.cell 1; have bf1 : wz.frozen? ⟨w2'.heap.size, 1, none⟩ = false := BO.frozen 1) | (go_at_call 142; refine (K1.out _).mono ?_; rintro e wz ⟨rfl, u⟩))
  all_goals first
    | (have u1 : Below w2'.heap.size w2' wz := ((Below.refl _ w2').alloc (Nat.le_refl _) (.cells #[.int .i64 0, .int .i64 0] 81)).drew.trans (u.mono (by simp))
       have G : Only [w2'.heap.size] wz ((wz.setCell ⟨w2'.heap.size, 0, none⟩ (.int .i64 X1)).setCell ⟨w2'.heap.size, 1, none⟩ (.int .i64 Y1)) := (((Only.refl [w2'.heap.size] wz).setCell ⟨w2'.heap.size, 0, none⟩ (.int .i64 X1) (by simp)).setCell ⟨w2'.heap.size, 1, none⟩ (.int .i64 Y1) (by simp))
       have hV : Below w2'.heap.size w2' ((wz.setCell ⟨w2'.heap.size, 0, none⟩ (.int .i64 X1)).setCell ⟨w2'.heap.size, 1, none⟩ (.int .i64 Y1)) := u1.trans (G.below u1.size (fun q hq => by simp at hq; omega))
       have B_y : Blk ((wz.setCell ⟨w2'.heap.size, 0, none⟩ (.int .i64 X1)).setCell ⟨w2'.heap.size, 1, none⟩ (.int .i64 Y1)) w2'.heap.size 81 #[.int .i64 X1, .int .i64 Y1] := ((BO.set_ 0 (.int .i64 X1)).set_ 1 (.int .i64 Y1))
       have hob : w2'.heap.size ≤ w2'.heap.size := Nat.le_refl _
       clear G u1 u BO bo0 bf0 bo1 bf1
       generalize ((wz.setCell ⟨w2'.heap.size, 0, none⟩ (.int .i64 X1)).setCell ⟨w2'.heap.size, 1, none⟩ (.int .i64 Y1)) = WW at *
       generalize hob' : w2'.heap.size = ob at B_y ⊢
       rw [hob'] at hob
       replace hob : w2'.heap.size ≤ ob := by omega
       clear hob')
    | (have u1 : Below w2'.heap.size w2' wz := (Below.refl _ w2').drew.trans u
       have hV : Below w2'.heap.size w2' (wz.alloc (.cells #[.int .i64 X1, .int .i64 Y1] 81)) := u1.alloc u1.size _
       have B_y : Blk (wz.alloc (.cells #[.int .i64 X1, .int .i64 Y1] 81)) wz.heap.size 81 #[.int .i64 X1, .int .i64 Y1] := Blk.new _ _ _
       have hob : w2'.heap.size ≤ wz.heap.size := u1.size
       clear u1 u
       generalize wz.alloc (.cells #[.int .i64 X1, .int .i64 Y1] 81) = WW at *
       generalize wz.heap.size = ob at *)
  all_goals
    clear p6 p7 p8 p9
    clear e_a_0 e_a_1 e_a_2 e_a_3 e_a_4 e_a_5 e_a_6 e_a_7 e_a_8 e_a_9 e_a_10
    replace B_a := B_a.below hV
    replace B_r := B_r.below hV
    have S_WW := hV.size
    have V_WW : Below w.heap.size w WW := V_w2'.trans (hV.mono V_w2'.size)
    clear V_w2'
    clear hV
    have hob2 : w.heap.size + 2 ≤ ob := by have := hob; have := S_w1'; have := S_w2'; omega
    have e_a_0 := B_a.a11_0
    have e_a_1 := B_a.a11_1
    have e_a_2 := B_a.a11_2
    have e_a_3 := B_a.a11_3
    have e_a_4 := B_a.a11_4
    have e_a_5 := B_a.a11_5
    have e_a_6 := B_a.a11_6
    have e_a_7 := B_a.a11_7
    have e_a_8 := B_a.a11_8
    have e_a_9 := B_a.a11_9
    have e_a_10 := B_a.a11_10
    have e_y := B_y.all2
    have p4 := keepC V_WW y4
    have p5 := keepC V_WW y5
    go_wp2
    refine wp_region_still_tail 8 (by kernel_rfl) (by kernel_rfl) ?_
    simp only [List.take_succ_cons, List.take_zero, List.drop_succ_cons, List.drop_zero]
    repeat still_step
    refine wpStill_nil ?_
    change wpList _ _ _ _ _ WW.drew
    clear e_a_0 e_a_1 e_a_2 e_a_3 e_a_4 e_a_5 e_a_6 e_a_7 e_a_8 e_a_9 e_a_10 e_y
    have V_w3'_1 : Below w.heap.size w WW.drew := (V_WW).drew
    replace B_a := B_a.drew
    replace B_r := B_r.drew
    replace B_y := B_y.drew
    have S_w3' : WW.heap.size + 0 ≤ WW.drew.heap.size := by first | (simp; done) | (simp; omega) | (simp [World.setCell]; done) | (simp [World.setCell]; omega)
    generalize WW.drew = w3' at *
    have V_w3' : Below w.heap.size w w3' := V_w3'_1
    clear V_WW
    clear V_w3'_1
    clear p4 p5
    go_wp2_with fail
    refine (K2.out _).mono ?_
    rintro e w4' ⟨rfl, u_w4'⟩
    replace B_a := B_a.below u_w4'
    replace B_r := B_r.below u_w4'
    replace B_y := B_y.below u_w4'
    have S_w4' := u_w4'.size
    have V_w4' : Below w.heap.size w w4' := V_w3'.trans (u_w4'.mono V_w3'.size)
    clear V_w3'
    clear u_w4'
    have e_y := B_y.all2
    have f_y := B_y.frz2
    go_wp2
    clear e_y f_y
    refine Exists.elim (B_y.row2 (.int .i64 X2) (.int .i64 Y2)) (fun w5' q => ?_)
    rw [q.1]; replace B_y := q.2.1; have G := q.2.2; clear q
    have V_w5' := (V_w4').trans (G.below (V_w4').size (fun q hq => by have := (V_w4').size; simp at hq; omega))
    replace B_a := B_a.only G (by first | (simp; done) | (simp; omega))
    replace B_r := B_r.only G (by first | (simp; done) | (simp; omega))
    have sG0 := G.size
    clear G
    clear V_w4'
    have S_w5' : w4'.heap.size + 0 ≤ w5'.heap.size := by omega
    clear sG0
    have e_a_0 := B_a.a11_0
    have e_a_1 := B_a.a11_1
    have e_a_2 := B_a.a11_2
    have e_a_3 := B_a.a11_3
    have e_a_4 := B_a.a11_4
    have e_a_5 := B_a.a11_5
    have e_a_6 := B_a.a11_6
    have e_a_7 := B_a.a11_7
    have e_a_8 := B_a.a11_8
    have e_a_9 := B_a.a11_9
    have e_a_10 := B_a.a11_10
    have e_y := B_y.all2
    go_wp2
    refine wp_region_still_tail 8 (by kernel_rfl) (by kernel_rfl) ?_
    simp only [List.take_succ_cons, List.take_zero, List.drop_succ_cons, List.drop_zero]
    repeat still_step
    refine wpStill_nil ?_
    change wpList _ _ _ _ _ w5'.drew
    clear e_a_0 e_a_1 e_a_2 e_a_3 e_a_4 e_a_5 e_a_6 e_a_7 e_a_8 e_a_9 e_a_10 e_y
    have V_w6'_1 : Below w.heap.size w w5'.drew := (V_w5').drew
    replace B_a := B_a.drew
    replace B_r := B_r.drew
    replace B_y := B_y.drew
    have S_w6' : w5'.heap.size + 0 ≤ w5'.drew.heap.size := by first | (simp; done) | (simp; omega) | (simp [World.setCell]; done) | (simp [World.setCell]; omega)
    generalize w5'.drew = w6' at *
    have V_w6' : Below w.heap.size w w6' := V_w6'_1
    clear V_w5'
    clear V_w6'_1
    go_wp2_with fail
    refine (K3.out _).mono ?_
    rintro e w7' ⟨rfl, u_w7'⟩
    replace B_a := B_a.below u_w7'
    replace B_r := B_r.below u_w7'
    replace B_y := B_y.below u_w7'
    have S_w7' := u_w7'.size
    have V_w7' : Below w.heap.size w w7' := V_w6'.trans (u_w7'.mono V_w6'.size)
    clear V_w6'
    clear u_w7'
    have e_r := B_r.all2
    have f_r := B_r.frz2
    go_wp2
    clear e_r f_r
    refine Exists.elim (B_r.row2 (.int .i64 zv) (.int .i64 zt)) (fun w8' q => ?_)
    rw [q.1]; replace B_r := q.2.1; have G := q.2.2; clear q
    have V_w8' := (V_w7').trans (G.below (V_w7').size (fun q hq => by have := (V_w7').size; simp at hq; omega))
    replace B_a := B_a.only G (by first | (simp; done) | (simp; omega))
    replace B_y := B_y.only G (by first | (simp; done) | (simp; omega))
    have sG0 := G.size
    clear G
    clear V_w7'
    have S_w8' : w7'.heap.size + 0 ≤ w8'.heap.size := by omega
    clear sG0
    have e_r := B_r.all2
    exact bodyPost_ret (v := .agg #[.int .i64 zv, .int .i64 zt]) (by simp [results, Tryd.results122, go_sem, e_r]) rfl ⟨rfl, V_w8'⟩
end Go.Proofs.YtlmdckcohoddnaaDoor
namespace Go.Proofs.YtlmdckcohoddnaaDoor
open Go.RowKit
theorem terms_1s (st : Int) (hst : st = 1) (a : Pl) (x : PlX) (w : World) (h : PlR w x a.shares a.keys a.heard) (hN : PlN a) (hs : 1 ≤ a.step) :
    Calls Tryd.prog 109 #[.agg #[.int .i64 a.P, .int .i64 a.party, .int .i64 a.input, .int .i64 a.mask, .int .i64 a.delta, .slice x.sa x.sn x.sc, .slice x.ka x.kn x.kc, .int .i64 a.step, .slice x.ha x.hn x.hc, .int .i64 a.status, .int .i64 a.out], .int .i64 st] w fun e w' => ∃ b c, e = .returned (.slice b 2 c) ∧ Flat 6 w' b 2 c (tm1 a) ∧ Below w.heap.size w w' := by subst hst; exact terms_1 a x w h hN hs
theorem terms_2s (st : Int) (hst : st = 2) (a : Pl) (x : PlX) (w : World) (h : PlR w x a.shares a.keys a.heard) (hN : PlN a) (hs : 2 ≤ a.step) :
    Calls Tryd.prog 109 #[.agg #[.int .i64 a.P, .int .i64 a.party, .int .i64 a.input, .int .i64 a.mask, .int .i64 a.delta, .slice x.sa x.sn x.sc, .slice x.ka x.kn x.kc, .int .i64 a.step, .slice x.ha x.hn x.hc, .int .i64 a.status, .int .i64 a.out], .int .i64 st] w fun e w' => ∃ b c, e = .returned (.slice b 1 c) ∧ Flat 6 w' b 1 c (tm2 a) ∧ Below w.heap.size w w' := by subst hst; exact terms_2 a x w h hN hs
set_option maxHeartbeats 8000000 in
set_option maxRecDepth 100000 in
theorem body_0 (a : Pl) (x : PlX) (w : World) (hN : PlN a) (hs : a.step = 0) :
    Calls Tryd.prog 73 #[.agg #[.int .i64 a.P, .int .i64 a.party, .int .i64 a.input, .int .i64 a.mask, .int .i64 a.delta, .slice x.sa x.sn x.sc, .slice x.ka x.kn x.kc, .int .i64 a.step, .slice x.ha x.hn x.hc, .int .i64 a.status, .int .i64 a.out]] w fun e w' => ∃ b c, e = .returned (.slice b 1 c) ∧ Own w' w.heap.size b 1 c [mkI a] ∧ Below w.heap.size w w' := by
  have hp1 := hN.p1
  have hp2 := hN.p2
  have hip := hN.ip
  have hmk := hN.mks
  have k0 : ((a.step == 0) : Bool) = true := by simpa using hs
  have HM : Hid ((a.input - a.mask) % a.P = mkI a) := Lib.hid rfl
  have t1 : IntKind.i64.wrap (a.input - a.mask) = a.input - a.mask := IntWalk.i64_in _ (by omega)
  clear hs hN
  go_enter Tryd.func73, Tryd.ntmps73
  go_wp2_with fail
  refine Exists.elim (Blk.new_ w (b := w.heap.size) rfl 31 #[.int .i64 a.P, .int .i64 a.party, .int .i64 a.input, .int .i64 a.mask, .int .i64 a.delta, .slice x.sa x.sn x.sc, .slice x.ka x.kn x.kc, .int .i64 a.step, .slice x.ha x.hn x.hc, .int .i64 a.status, .int .i64 a.out]) (fun w1' q => ?_)
  rw [q.1]; have B_a := q.2.1; have s_w1' := q.2.2.1; have u_w1' := q.2.2.2; clear q
  have S_w1' : w.heap.size + 1 ≤ w1'.heap.size := Nat.le_of_eq s_w1'.symm
  have V_w1' := (Below.refl w.heap.size w).trans (u_w1'.mono ((Below.refl w.heap.size w)).size)
  clear u_w1' s_w1'
  refine (mod_same _ _ _ (by omega) (by omega)).mono ?_; rintro e w' ⟨rfl, hw⟩; replace hw := hw.symm; subst hw
  rw [HM.out]
  go_wp2
  go_ret
  exact ⟨_, _, rfl, (Own.lit w1' _ [mkI a] (Nat.le_refl _) (by simp [maxLen])).lower V_w1'.size, V_w1'.alloc V_w1'.size _⟩
set_option maxHeartbeats 16000000 in
set_option maxRecDepth 100000 in
theorem body_1 (a : Pl) (x : PlX) (w : World) (h : PlR w x a.shares a.keys a.heard) (hN : PlN a) (hs : a.step = 1) :
    Calls Tryd.prog 73 #[.agg #[.int .i64 a.P, .int .i64 a.party, .int .i64 a.input, .int .i64 a.mask, .int .i64 a.delta, .slice x.sa x.sn x.sc, .slice x.ka x.kn x.kc, .int .i64 a.step, .slice x.ha x.hn x.hc, .int .i64 a.status, .int .i64 a.out]] w fun e w' => ∃ b c, e = .returned (.slice b 4 c) ∧ Own w' w.heap.size b 4 c [seV0 a, seT0 a, seV1 a, seT1 a] ∧ Below w.heap.size w w' := by
  have hp1 := hN.p1
  have hp2 := hN.p2
  have q0 := f0_rng hN (by omega)
  have q1 := f1_rng hN (by omega)
  have rd := dI_rng hN
  have re := eI_rng hN
  have m1 : 0 ≤ dI a * eI a := Int.mul_nonneg rd.1 re.1
  have m2 : dI a * eI a ≤ 1000 * 1000 := Int.mul_le_mul (by omega) (by omega) re.1 (by omega)
  have k0 : ((a.step == 0) : Bool) = false := by simp; omega
  have CT := Lib.hid (fun (W : World) (h2 : PlR W x a.shares a.keys a.heard) => terms_1s a.step hs a x W h2 hN (by omega))
  have C0 := Lib.hid (fun (W : World) (h2 : PlR W x a.shares a.keys a.heard) => (show Calls Tryd.prog 110 #[.agg #[.int .i64 a.P, .int .i64 a.party, .int .i64 a.input, .int .i64 a.mask, .int .i64 a.delta, .slice x.sa x.sn x.sc, .slice x.ka x.kn x.kc, .int .i64 a.step, .slice x.ha x.hn x.hc, .int .i64 a.status, .int .i64 a.out], .agg #[.int .i64 (1), .int .i64 (0), .int .i64 (-1), .int .i64 (0), .int .i64 (0), .int .i64 (f0 a)]] W fun e w' => e = .returned (.agg #[.int .i64 (seV0 a), .int .i64 (seT0 a)]) ∧ Below W.heap.size W w' from own_any a x (1) (0) (-1) (0) (0) (f0 a) W h2 hN (fun i _ => by unfold w5; split <;> (try split) <;> (try split) <;> (try split) <;> omega) (by omega)))
  have C1 := Lib.hid (fun (W : World) (h2 : PlR W x a.shares a.keys a.heard) => (show Calls Tryd.prog 110 #[.agg #[.int .i64 a.P, .int .i64 a.party, .int .i64 a.input, .int .i64 a.mask, .int .i64 a.delta, .slice x.sa x.sn x.sc, .slice x.ka x.kn x.kc, .int .i64 a.step, .slice x.ha x.hn x.hc, .int .i64 a.status, .int .i64 a.out], .agg #[.int .i64 (0), .int .i64 (1), .int .i64 (0), .int .i64 (-1), .int .i64 (0), .int .i64 (f1 a)]] W fun e w' => e = .returned (.agg #[.int .i64 (seV1 a), .int .i64 (seT1 a)]) ∧ Below W.heap.size W w' from own_any a x (0) (1) (0) (-1) (0) (f1 a) W h2 hN (fun i _ => by unfold w5; split <;> (try split) <;> (try split) <;> (try split) <;> omega) (by omega)))
  have LH := Lib.hid h
  clear h hN hs q0 q1 rd re m1 m2
  go_enter Tryd.func73, Tryd.ntmps73
  go_wp2_with fail
  refine Exists.elim (Blk.new_ w (b := w.heap.size) rfl 31 #[.int .i64 a.P, .int .i64 a.party, .int .i64 a.input, .int .i64 a.mask, .int .i64 a.delta, .slice x.sa x.sn x.sc, .slice x.ka x.kn x.kc, .int .i64 a.step, .slice x.ha x.hn x.hc, .int .i64 a.status, .int .i64 a.out]) (fun w1_a0' q => ?_)
  rw [q.1]; have B_a := q.2.1; have s_w1_a0' := q.2.2.1; have u_w1_a0' := q.2.2.2; clear q
  refine Exists.elim (Blk.new_ w1_a0' (b := w.heap.size + 1) s_w1_a0' 3 #[]) (fun w1' q => ?_)
  rw [q.1]; have B_z := q.2.1; have s_w1' := q.2.2.1; have u_w1' := q.2.2.2; clear q
  replace B_a := (B_a.below u_w1')
  have U := (u_w1_a0'.trans (u_w1'.mono u_w1_a0'.size))
  have S_w1' : w.heap.size + 2 ≤ w1'.heap.size := Nat.le_of_eq s_w1'.symm
  have V_w1' := (Below.refl w.heap.size w).trans (U.mono ((Below.refl w.heap.size w)).size)
  clear u_w1_a0' u_w1' s_w1_a0' s_w1' U
  clear B_z
  have e_a_0 := B_a.a11_0
  have e_a_1 := B_a.a11_1
  have e_a_2 := B_a.a11_2
  have e_a_3 := B_a.a11_3
  have e_a_4 := B_a.a11_4
  have e_a_5 := B_a.a11_5
  have e_a_6 := B_a.a11_6
  have e_a_7 := B_a.a11_7
  have e_a_8 := B_a.a11_8
  have e_a_9 := B_a.a11_9
  have e_a_10 := B_a.a11_10
  go_wp2_with fail
  clear e_a_0 e_a_1 e_a_2 e_a_3 e_a_4 e_a_5 e_a_6 e_a_7 e_a_8 e_a_9 e_a_10
  refine (CT.out _ (LH.out.below V_w1')).mono ?_
  rintro e w2' ⟨b, c, rfl, hF, u_w2'⟩
  replace B_a := B_a.below u_w2'
  have S_w2' := u_w2'.size
  have V_w2' : Below w.heap.size w w2' := V_w1'.trans (u_w2'.mono V_w1'.size)
  clear V_w1'
  clear u_w2'
  go_wp2
  go_loopw [25, 3] (fun v u wr => ∃ k : Nat, k ≤ 2 ∧ v = .int .i64 k ∧ Below w2'.heap.size w2' wr ∧ ∃ c5 d5, u = .slice c5 (2 * k) d5 ∧ Own wr w2'.heap.size c5 (2 * k) d5 ([seV0 a, seT0 a, seV1 a, seT1 a].take (2 * k))) (fun v _ _ => 2 - (intOf v).toNat)
  case atStart => exact ⟨0, by omega, rfl, Below.refl _ _, _, _, rfl, Own.nil0 _ _ _⟩
  case round =>
    obtain ⟨k, hk, rfl, hbel, c5, d5, rfl, own⟩ := hrel
    have VB := V_w2'
    have SB := V_w2'.size
    have B_a := B_a.below hbel
    have V_wr := V_w2'.trans (hbel.mono V_w2'.size)
    have S_wr := hbel.size
    by_cases hlt : k < 2
    · obtain ⟨g, o, rfl, hc⟩ := (hF.below hbel).at (by omega)
      have hcase : k = 0 ∨ k = 1 := by omega
      rcases hcase with rfl | rfl
      · have tc0 : wr.cell? ⟨g, o, none⟩ = some (.int .i64 (1)) := hc 0 (by omega)
        have tc1 : wr.cell? ⟨g, o + 1, none⟩ = some (.int .i64 (0)) := hc 1 (by omega)
        have tc2 : wr.cell? ⟨g, o + 2, none⟩ = some (.int .i64 (-1)) := hc 2 (by omega)
        have tc3 : wr.cell? ⟨g, o + 3, none⟩ = some (.int .i64 (0)) := hc 3 (by omega)
        have tc4 : wr.cell? ⟨g, o + 4, none⟩ = some (.int .i64 (0)) := hc 4 (by omega)
        have tc5 : wr.cell? ⟨g, o + 5, none⟩ = some (.int .i64 (f0 a)) := hc 5 (by omega)
        have own' : Own wr w2'.heap.size c5 0 d5 [] := own
        clear own hc
        rw [show ((0 : Nat) : Int) = 0 from rfl]
        have e_a_0 := B_a.a11_0
        have e_a_1 := B_a.a11_1
        have e_a_2 := B_a.a11_2
        have e_a_3 := B_a.a11_3
        have e_a_4 := B_a.a11_4
        have e_a_5 := B_a.a11_5
        have e_a_6 := B_a.a11_6
        have e_a_7 := B_a.a11_7
        have e_a_8 := B_a.a11_8
        have e_a_9 := B_a.a11_9
        have e_a_10 := B_a.a11_10
        have V9 : Below wr.heap.size wr (wr.alloc (.cells #[.int .i64 (1), .int .i64 (0), .int .i64 (-1), .int .i64 (0), .int .i64 (0), .int .i64 (f0 a)] 123)) := (Below.refl _ _).alloc (Nat.le_refl _) _
        have p0 := keepC V9 e_a_0
        have p1 := keepC V9 e_a_1
        have p2 := keepC V9 e_a_2
        have p3 := keepC V9 e_a_3
        have p4 := keepC V9 e_a_4
        have p5 := keepC V9 e_a_5
        have p6 := keepC V9 e_a_6
        have p7 := keepC V9 e_a_7
        have p8 := keepC V9 e_a_8
        have p9 := keepC V9 e_a_9
        have p10 := keepC V9 e_a_10
        go_wp2_with fail
        refine (C0.out _ ((LH.out.below V_wr).below V9)).mono ?_; rintro e wy ⟨rfl, u⟩
        have u9 := V9.trans (u.mono V9.size)
        have own2 := own'.below u9
        have V10 := V_wr.trans (u9.mono V_wr.size)
        have hb9 := hbel.trans (u9.mono hbel.size)
        have VX := V10.alloc V10.size (.cells #[.int .i64 (seV0 a), .int .i64 (seT0 a)] 81)
        have hbX := hb9.alloc hb9.size (.cells #[.int .i64 (seV0 a), .int .i64 (seT0 a)] 81)
        have own3 := own2.alloc (.cells #[.int .i64 (seV0 a), .int .i64 (seT0 a)] 81)
        clear e_a_0 e_a_1 e_a_2 e_a_3 e_a_4 e_a_5 e_a_6 e_a_7 e_a_8 e_a_9 e_a_10
        clear own' own2 V10 hb9 u9 u V9 tc0 tc1 tc2 tc3 tc4 tc5 p0 p1 p2 p3 p4 p5 p6 p7 p8 p9 p10
        have SX := VX.size
        have SY := hbX.size
        have LIT : Ints ((wy.alloc (.cells #[.int .i64 (seV0 a), .int .i64 (seT0 a)] 81)).alloc (.cells #[.int .i64 (seV0 a), .int .i64 (seT0 a)] 3)) (some ⟨wy.heap.size + 1, 0, none⟩) 2 2 [seV0 a, seT0 a] := by simpa using Ints.lit2 (wy.alloc (.cells #[.int .i64 (seV0 a), .int .i64 (seT0 a)] 81)) (seV0 a) (seT0 a) 3
        have TR : Hid (([seV0 a, seT0 a, seV1 a, seT1 a] : List Int).take (2 * (0 + 1)) = [] ++ [seV0 a, seT0 a]) := Lib.hid rfl
        go_wp2_with (at_builtin; refine wpList_appI _ rfl _ _ rfl w2'.heap.size c5 0 d5 [] rfl (own3.alloc _) _ 2 2 [seV0 a, seT0 a] rfl LIT (by omega) (by simp at *; omega) ?_)
        intro a6 c6 w6 o6 u6 g6
        have hb7 := (hbX.alloc hbX.size _).trans u6
        clear u6 g6 LIT own3 hbX VX SX SY
        go_wp2
        go_roundw
        case rel => exact ⟨0 + 1, by omega, by go_num, hb7, a6, c6, rfl, by rw [TR.out]; exact o6⟩
        case measure => simp [intOf]
      · have tc0 : wr.cell? ⟨g, o + 6, none⟩ = some (.int .i64 (0)) := hc 6 (by omega)
        have tc1 : wr.cell? ⟨g, o + 7, none⟩ = some (.int .i64 (1)) := hc 7 (by omega)
        have tc2 : wr.cell? ⟨g, o + 8, none⟩ = some (.int .i64 (0)) := hc 8 (by omega)
        have tc3 : wr.cell? ⟨g, o + 9, none⟩ = some (.int .i64 (-1)) := hc 9 (by omega)
        have tc4 : wr.cell? ⟨g, o + 10, none⟩ = some (.int .i64 (0)) := hc 10 (by omega)
        have tc5 : wr.cell? ⟨g, o + 11, none⟩ = some (.int .i64 (f1 a)) := hc 11 (by omega)
        have own' : Own wr w2'.heap.size c5 2 d5 [seV0 a, seT0 a] := own
        clear own hc
        rw [show ((1 : Nat) : Int) = 1 from rfl]
        have e_a_0 := B_a.a11_0
        have e_a_1 := B_a.a11_1
        have e_a_2 := B_a.a11_2
        have e_a_3 := B_a.a11_3
        have e_a_4 := B_a.a11_4
        have e_a_5 := B_a.a11_5
        have e_a_6 := B_a.a11_6
        have e_a_7 := B_a.a11_7
        have e_a_8 := B_a.a11_8
        have e_a_9 := B_a.a11_9
        have e_a_10 := B_a.a11_10
        have V9 : Below wr.heap.size wr (wr.alloc (.cells #[.int .i64 (0), .int .i64 (1), .int .i64 (0), .int .i64 (-1), .int .i64 (0), .int .i64 (f1 a)] 123)) := (Below.refl _ _).alloc (Nat.le_refl _) _
        have p0 := keepC V9 e_a_0
        have p1 := keepC V9 e_a_1
        have p2 := keepC V9 e_a_2
        have p3 := keepC V9 e_a_3
        have p4 := keepC V9 e_a_4
        have p5 := keepC V9 e_a_5
        have p6 := keepC V9 e_a_6
        have p7 := keepC V9 e_a_7
        have p8 := keepC V9 e_a_8
        have p9 := keepC V9 e_a_9
        have p10 := keepC V9 e_a_10
        go_wp2_with fail
        refine (C1.out _ ((LH.out.below V_wr).below V9)).mono ?_; rintro e wy ⟨rfl, u⟩
        have u9 := V9.trans (u.mono V9.size)
        have own2 := own'.below u9
        have V10 := V_wr.trans (u9.mono V_wr.size)
        have hb9 := hbel.trans (u9.mono hbel.size)
        have VX := V10.alloc V10.size (.cells #[.int .i64 (seV1 a), .int .i64 (seT1 a)] 81)
        have hbX := hb9.alloc hb9.size (.cells #[.int .i64 (seV1 a), .int .i64 (seT1 a)] 81)
        have own3 := own2.alloc (.cells #[.int .i64 (seV1 a), .int .i64 (seT1 a)] 81)
        clear e_a_0 e_a_1 e_a_2 e_a_3 e_a_4 e_a_5 e_a_6 e_a_7 e_a_8 e_a_9 e_a_10
        clear own' own2 V10 hb9 u9 u V9 tc0 tc1 tc2 tc3 tc4 tc5 p0 p1 p2 p3 p4 p5 p6 p7 p8 p9 p10
        have SX := VX.size
        have SY := hbX.size
        have LIT : Ints ((wy.alloc (.cells #[.int .i64 (seV1 a), .int .i64 (seT1 a)] 81)).alloc (.cells #[.int .i64 (seV1 a), .int .i64 (seT1 a)] 3)) (some ⟨wy.heap.size + 1, 0, none⟩) 2 2 [seV1 a, seT1 a] := by simpa using Ints.lit2 (wy.alloc (.cells #[.int .i64 (seV1 a), .int .i64 (seT1 a)] 81)) (seV1 a) (seT1 a) 3
        have TR : Hid (([seV0 a, seT0 a, seV1 a, seT1 a] : List Int).take (2 * (1 + 1)) = [seV0 a, seT0 a] ++ [seV1 a, seT1 a]) := Lib.hid rfl
        go_wp2_with (at_builtin; refine wpList_appI _ rfl _ _ rfl w2'.heap.size c5 2 d5 [seV0 a, seT0 a] rfl (own3.alloc _) _ 2 2 [seV1 a, seT1 a] rfl LIT (by omega) (by simp at *; omega) ?_)
        intro a6 c6 w6 o6 u6 g6
        have hb7 := (hbX.alloc hbX.size _).trans u6
        clear u6 g6 LIT own3 hbX VX SX SY
        go_wp2
        go_roundw
        case rel => exact ⟨1 + 1, by omega, by go_num, hb7, a6, c6, rfl, by rw [TR.out]; exact o6⟩
        case measure => simp [intOf]
    · obtain rfl : k = 2 := by omega
      have own' : Own wr w2'.heap.size c5 4 d5 [seV0 a, seT0 a, seV1 a, seT1 a] := own
      go_wp2
      go_ret
      exact ⟨_, _, rfl, own'.lower SB, VB.trans (hbel.mono SB)⟩
set_option maxHeartbeats 16000000 in
set_option maxRecDepth 100000 in
theorem body_2 (a : Pl) (x : PlX) (w : World) (h : PlR w x a.shares a.keys a.heard) (hN : PlN a) (hs : a.step = 2) :
    Calls Tryd.prog 73 #[.agg #[.int .i64 a.P, .int .i64 a.party, .int .i64 a.input, .int .i64 a.mask, .int .i64 a.delta, .slice x.sa x.sn x.sc, .slice x.ka x.kn x.kc, .int .i64 a.step, .slice x.ha x.hn x.hc, .int .i64 a.status, .int .i64 a.out]] w fun e w' => ∃ b c, e = .returned (.slice b 2 c) ∧ Own w' w.heap.size b 2 c [thV a, thT a] ∧ Below w.heap.size w w' := by
  have hp1 := hN.p1
  have hp2 := hN.p2
  have q0 := f0_rng hN (by omega)
  have q1 := f1_rng hN (by omega)
  have rd := dI_rng hN
  have re := eI_rng hN
  have m1 : 0 ≤ dI a * eI a := Int.mul_nonneg rd.1 re.1
  have m2 : dI a * eI a ≤ 1000 * 1000 := Int.mul_le_mul (by omega) (by omega) re.1 (by omega)
  have k0 : ((a.step == 0) : Bool) = false := by simp; omega
  have CT := Lib.hid (fun (W : World) (h2 : PlR W x a.shares a.keys a.heard) => terms_2s a.step hs a x W h2 hN (by omega))
  have C0 := Lib.hid (fun (W : World) (h2 : PlR W x a.shares a.keys a.heard) => (show Calls Tryd.prog 110 #[.agg #[.int .i64 a.P, .int .i64 a.party, .int .i64 a.input, .int .i64 a.mask, .int .i64 a.delta, .slice x.sa x.sn x.sc, .slice x.ka x.kn x.kc, .int .i64 a.step, .slice x.ha x.hn x.hc, .int .i64 a.status, .int .i64 a.out], .agg #[.int .i64 (0), .int .i64 (0), .int .i64 (eI a), .int .i64 (dI a), .int .i64 (1), .int .i64 (dI a * eI a)]] W fun e w' => e = .returned (.agg #[.int .i64 (thV a), .int .i64 (thT a)]) ∧ Below W.heap.size W w' from own_any a x (0) (0) (eI a) (dI a) (1) (dI a * eI a) W h2 hN (fun i _ => by unfold w5; split <;> (try split) <;> (try split) <;> (try split) <;> omega) (by omega)))
  have LH := Lib.hid h
  clear h hN hs q0 q1 rd re m1 m2
  go_enter Tryd.func73, Tryd.ntmps73
  go_wp2_with fail
  refine Exists.elim (Blk.new_ w (b := w.heap.size) rfl 31 #[.int .i64 a.P, .int .i64 a.party, .int .i64 a.input, .int .i64 a.mask, .int .i64 a.delta, .slice x.sa x.sn x.sc, .slice x.ka x.kn x.kc, .int .i64 a.step, .slice x.ha x.hn x.hc, .int .i64 a.status, .int .i64 a.out]) (fun w1_a0' q => ?_)
  rw [q.1]; have B_a := q.2.1; have s_w1_a0' := q.2.2.1; have u_w1_a0' := q.2.2.2; clear q
  refine Exists.elim (Blk.new_ w1_a0' (b := w.heap.size + 1) s_w1_a0' 3 #[]) (fun w1' q => ?_)
  rw [q.1]; have B_z := q.2.1; have s_w1' := q.2.2.1; have u_w1' := q.2.2.2; clear q
  replace B_a := (B_a.below u_w1')
  have U := (u_w1_a0'.trans (u_w1'.mono u_w1_a0'.size))
  have S_w1' : w.heap.size + 2 ≤ w1'.heap.size := Nat.le_of_eq s_w1'.symm
  have V_w1' := (Below.refl w.heap.size w).trans (U.mono ((Below.refl w.heap.size w)).size)
  clear u_w1_a0' u_w1' s_w1_a0' s_w1' U
  clear B_z
  have e_a_0 := B_a.a11_0
  have e_a_1 := B_a.a11_1
  have e_a_2 := B_a.a11_2
  have e_a_3 := B_a.a11_3
  have e_a_4 := B_a.a11_4
  have e_a_5 := B_a.a11_5
  have e_a_6 := B_a.a11_6
  have e_a_7 := B_a.a11_7
  have e_a_8 := B_a.a11_8
  have e_a_9 := B_a.a11_9
  have e_a_10 := B_a.a11_10
  go_wp2_with fail
  clear e_a_0 e_a_1 e_a_2 e_a_3 e_a_4 e_a_5 e_a_6 e_a_7 e_a_8 e_a_9 e_a_10
  refine (CT.out _ (LH.out.below V_w1')).mono ?_
  rintro e w2' ⟨b, c, rfl, hF, u_w2'⟩
  replace B_a := B_a.below u_w2'
  have S_w2' := u_w2'.size
  have V_w2' : Below w.heap.size w w2' := V_w1'.trans (u_w2'.mono V_w1'.size)
  clear V_w1'
  clear u_w2'
  go_wp2
  go_loopw [25, 3] (fun v u wr => ∃ k : Nat, k ≤ 1 ∧ v = .int .i64 k ∧ Below w2'.heap.size w2' wr ∧ ∃ c5 d5, u = .slice c5 (2 * k) d5 ∧ Own wr w2'.heap.size c5 (2 * k) d5 ([thV a, thT a].take (2 * k))) (fun v _ _ => 1 - (intOf v).toNat)
  case atStart => exact ⟨0, by omega, rfl, Below.refl _ _, _, _, rfl, Own.nil0 _ _ _⟩
  case round =>
    obtain ⟨k, hk, rfl, hbel, c5, d5, rfl, own⟩ := hrel
    have VB := V_w2'
    have SB := V_w2'.size
    have B_a := B_a.below hbel
    have V_wr := V_w2'.trans (hbel.mono V_w2'.size)
    have S_wr := hbel.size
    by_cases hlt : k < 1
    · obtain ⟨g, o, rfl, hc⟩ := (hF.below hbel).at (by omega)
      obtain rfl : k = 0 := by omega
      have tc0 : wr.cell? ⟨g, o, none⟩ = some (.int .i64 (0)) := hc 0 (by omega)
      have tc1 : wr.cell? ⟨g, o + 1, none⟩ = some (.int .i64 (0)) := hc 1 (by omega)
      have tc2 : wr.cell? ⟨g, o + 2, none⟩ = some (.int .i64 (eI a)) := hc 2 (by omega)
      have tc3 : wr.cell? ⟨g, o + 3, none⟩ = some (.int .i64 (dI a)) := hc 3 (by omega)
      have tc4 : wr.cell? ⟨g, o + 4, none⟩ = some (.int .i64 (1)) := hc 4 (by omega)
      have tc5 : wr.cell? ⟨g, o + 5, none⟩ = some (.int .i64 (dI a * eI a)) := hc 5 (by omega)
      have own' : Own wr w2'.heap.size c5 0 d5 [] := own
      clear own hc
      rw [show ((0 : Nat) : Int) = 0 from rfl]
      have e_a_0 := B_a.a11_0
      have e_a_1 := B_a.a11_1
      have e_a_2 := B_a.a11_2
      have e_a_3 := B_a.a11_3
      have e_a_4 := B_a.a11_4
      have e_a_5 := B_a.a11_5
      have e_a_6 := B_a.a11_6
      have e_a_7 := B_a.a11_7
      have e_a_8 := B_a.a11_8
      have e_a_9 := B_a.a11_9
      have e_a_10 := B_a.a11_10
      have V9 : Below wr.heap.size wr (wr.alloc (.cells #[.int .i64 (0), .int .i64 (0), .int .i64 (eI a), .int .i64 (dI a), .int .i64 (1), .int .i64 (dI a * eI a)] 123)) := (Below.refl _ _).alloc (Nat.le_refl _) _
      have p0 := keepC V9 e_a_0
      have p1 := keepC V9 e_a_1
      have p2 := keepC V9 e_a_2
      have p3 := keepC V9 e_a_3
      have p4 := keepC V9 e_a_4
      have p5 := keepC V9 e_a_5
      have p6 := keepC V9 e_a_6
      have p7 := keepC V9 e_a_7
      have p8 := keepC V9 e_a_8
      have p9 := keepC V9 e_a_9
      have p10 := keepC V9 e_a_10
      go_wp2_with fail
      refine (C0.out _ ((LH.out.below V_wr).below V9)).mono ?_; rintro e wy ⟨rfl, u⟩
      have u9 := V9.trans (u.mono V9.size)
      have own2 := own'.below u9
      have V10 := V_wr.trans (u9.mono V_wr.size)
      have hb9 := hbel.trans (u9.mono hbel.size)
      have VX := V10.alloc V10.size (.cells #[.int .i64 (thV a), .int .i64 (thT a)] 81)
      have hbX := hb9.alloc hb9.size (.cells #[.int .i64 (thV a), .int .i64 (thT a)] 81)
      have own3 := own2.alloc (.cells #[.int .i64 (thV a), .int .i64 (thT a)] 81)
      clear e_a_0 e_a_1 e_a_2 e_a_3 e_a_4 e_a_5 e_a_6 e_a_7 e_a_8 e_a_9 e_a_10
      clear own' own2 V10 hb9 u9 u V9 tc0 tc1 tc2 tc3 tc4 tc5 p0 p1 p2 p3 p4 p5 p6 p7 p8 p9 p10
      have SX := VX.size
      have SY := hbX.size
      have LIT : Ints ((wy.alloc (.cells #[.int .i64 (thV a), .int .i64 (thT a)] 81)).alloc (.cells #[.int .i64 (thV a), .int .i64 (thT a)] 3)) (some ⟨wy.heap.size + 1, 0, none⟩) 2 2 [thV a, thT a] := by simpa using Ints.lit2 (wy.alloc (.cells #[.int .i64 (thV a), .int .i64 (thT a)] 81)) (thV a) (thT a) 3
      have TR : Hid (([thV a, thT a] : List Int).take (2 * (0 + 1)) = [] ++ [thV a, thT a]) := Lib.hid rfl
      go_wp2_with (at_builtin; refine wpList_appI _ rfl _ _ rfl w2'.heap.size c5 0 d5 [] rfl (own3.alloc _) _ 2 2 [thV a, thT a] rfl LIT (by omega) (by simp at *; omega) ?_)
      intro a6 c6 w6 o6 u6 g6
      have hb7 := (hbX.alloc hbX.size _).trans u6
      clear u6 g6 LIT own3 hbX VX SX SY
      go_wp2
      go_roundw
      case rel => exact ⟨0 + 1, by omega, by go_num, hb7, a6, c6, rfl, by rw [TR.out]; exact o6⟩
      case measure => simp [intOf]
    · obtain rfl : k = 1 := by omega
      have own' : Own wr w2'.heap.size c5 2 d5 [thV a, thT a] := own
      go_wp2
      go_ret
      exact ⟨_, _, rfl, own'.lower SB, VB.trans (hbel.mono SB)⟩
end Go.Proofs.YtlmdckcohoddnaaDoor
