/- FnTriples: products of pairs are pairs of products; what is opened are the differences; drawn triples fit. -/
import Derived.Test.YthpcmbdkboajcaaDrawS
import Derived.Test.YthpcmbdkboajcaaTriP
import Derived.Test.YthpcmbdkboajcaaSame
import Derived.Test.YthpcmbdkboajcaaLocal
import Derived.Test.YthpcmbdkboajcaaDrawL
import Derived.Deep.DeepCutAuto
namespace Go.Proofs.Ythpcmbdkboajcaa
open Go.RowKit

theorem ints2 {w : World} {a : Option Addr} {n c : Nat} {x y : Int} (h : Ints w a n c [x, y]) : n = 2 ∧ ∃ g o, a = some ⟨g, o, none⟩ ∧ w.cell? ⟨g, o, none⟩ = some (.int .i64 x) ∧ w.cell? ⟨g, o + 1, none⟩ = some (.int .i64 y) := by
  have hn : n = 2 := h.len
  obtain ⟨g, o, e, hc⟩ := h.cells (by omega)
  have h0 := hc 0 (by omega)
  have h1 := hc 1 (by omega)
  exact ⟨hn, g, o, e, by simpa using h0, by simpa using h1⟩
theorem ints6 {w : World} {a : Option Addr} {n c : Nat} {t0 t1 t2 t3 t4 t5 : Int} (h : Ints w a n c [t0, t1, t2, t3, t4, t5]) : n = 6 ∧ ∃ g o, a = some ⟨g, o, none⟩ ∧ w.cell? ⟨g, o, none⟩ = some (.int .i64 t0) ∧ w.cell? ⟨g, o + 1, none⟩ = some (.int .i64 t1) ∧ w.cell? ⟨g, o + 3, none⟩ = some (.int .i64 t3) ∧ w.cell? ⟨g, o + 4, none⟩ = some (.int .i64 t4) := by
  have hn : n = 6 := h.len
  obtain ⟨g, o, e, hc⟩ := h.cells (by omega)
  have h0 := hc 0 (by omega)
  have h1 := hc 1 (by omega)
  have h3 := hc 3 (by omega)
  have h4 := hc 4 (by omega)
  exact ⟨hn, g, o, e, by simpa using h0, by simpa using h1, by simpa using h3, by simpa using h4⟩
set_option maxHeartbeats 16000000 in
set_option maxRecDepth 100000 in
theorem FnTriples_walk (a0 : Option Addr) (n0 c0 : Nat) (a1 : Option Addr) (n1 c1 : Nat) (w : World) (z0 : Cod w w.heap.size a0 n0 c0) (z1 : Cod w w.heap.size a1 n1 c1) :
    Calls Try.prog 3 #[.slice a0 n0 c0, .slice a1 n1 c1] w fun e w' => e = .returned (.bool true) ∧ Below w.heap.size w w' := by
  have hmx : n0 ≤ maxLen := by have := z0.1; have := z0.2.1; omega

  have Z1 := Lib.hid z1
  go_enter Try.func3, Try.ntmps3
  go_wp2_with fail
  refine (big_any _ _ _ _ _ _ _ hmx).mono ?_; rintro e w' ⟨⟨b, rfl⟩, hw⟩
  obtain rfl : w = w' := hw.symm
  clear z1 hmx
  cases b
  rotate_left
  · go_wp2
    go_ret
    exact ⟨rfl, Below.refl _ _⟩
  go_wp2_with fail
  refine (DrawMultiplyShared_any _ _ _ _ z0).mono ?_
  rintro e w1' ⟨p, ta, tn, tc, t, xa, xn, xc, x, ya, yn, yc, y, rfl, ht, hx, hy, u_w1'⟩
  have S_w1' := u_w1'.size
  have V_w1' : Below w.heap.size w w1' := (Below.refl w.heap.size w).trans (u_w1'.mono (Below.refl w.heap.size w).size)
  clear u_w1'
  clear z0

  go_wp2_with fail
  refine (MultiplyShared_any p _ _ _ t _ _ _ x _ _ _ y _ ht hx hy).mono ?_
  rintro e w2' ⟨za, zn, zc, qa, qn, qc, rfl, oz, oq, ap, u_w2'⟩
  replace ht := ht.below u_w2'
  replace hx := hx.below u_w2'
  replace hy := hy.below u_w2'
  have S_w2' := u_w2'.size
  have V_w2' : Below w.heap.size w w2' := V_w1'.trans (u_w2'.mono V_w1'.size)
  clear V_w1'
  clear u_w2'
  clear ap

  go_wp2_with fail
  refine (spec_MultiplyShared_any p _ _ _ t _ _ _ x _ _ _ y _ ht hx hy).mono ?_
  rintro e w3' ⟨wa, wn, wc, pa, pn, pc, rfl, ow, op, ap, u_w3'⟩
  replace ht := ht.below u_w3'
  replace hx := hx.below u_w3'
  replace hy := hy.below u_w3'
  replace oz := oz.below u_w3'
  replace oq := oq.below u_w3'
  have S_w3' := u_w3'.size
  have V_w3' : Below w.heap.size w w3' := V_w2'.trans (u_w3'.mono V_w2'.size)
  clear V_w2'
  clear u_w3'
  clear ap

  have HL : Hid (msrB p t x y = true → _) := Lib.hid (fun h => ms_law h)
  generalize msrB p t x y = ok at *
  go_wp2_with fail
  refine (sameInts_same _ _ _ _ _ _ _ _ oz.ints ow.ints).mono ?_
  rintro e w4' ⟨rfl, q_w4'⟩
  have u_w4' := below_of_quiet q_w4'
  clear q_w4'
  replace ht := ht.below u_w4'
  replace hx := hx.below u_w4'
  replace hy := hy.below u_w4'
  replace oz := oz.below u_w4'
  replace oq := oq.below u_w4'
  replace ow := ow.below u_w4'
  replace op := op.below u_w4'
  have S_w4' := u_w4'.size
  have V_w4' : Below w.heap.size w w4' := V_w3'.trans (u_w4'.mono V_w3'.size)
  clear V_w3'
  clear u_w4'
  go_wp2_with fail
  refine (sameInts_same _ _ _ _ _ _ _ _ oq.ints op.ints).mono ?_
  rintro e w5' ⟨rfl, q_w5'⟩
  have u_w5' := below_of_quiet q_w5'
  clear q_w5'
  replace ht := ht.below u_w5'
  replace hx := hx.below u_w5'
  replace hy := hy.below u_w5'
  replace oz := oz.below u_w5'
  replace oq := oq.below u_w5'
  replace ow := ow.below u_w5'
  replace op := op.below u_w5'
  have S_w5' := u_w5'.size
  have V_w5' : Below w.heap.size w w5' := V_w4'.trans (u_w5'.mono V_w4'.size)
  clear V_w4'
  clear u_w5'
  clear oz
  clear oq
  go_upto_if 83 with fail
  go_cut [] (fun wx => Below w.heap.size w wx)

  case first => as_aux_lemma =>
    cases ok
    · go_wp2_with fail
      go_meet
      case rel => exact V_w5'
    · obtain ⟨t0, t1, t2, t3, t4, t5, x0, x1, y0, y1, z0, z1, d, e, rfl, rfl, rfl, eL, eO, ⟨hp1, hp2⟩, r0, r1, r3, r4, rx0, rx1, ry0, ry1, rz0, rz1, hz, hd, he⟩ := HL.out rfl
      clear HL
      rw [eL] at ow
      rw [eO] at op
      obtain ⟨rfl, gx, ox, rfl, cx0, cx1⟩ := ints2 hx
      obtain ⟨rfl, gy, oy, rfl, cy0, cy1⟩ := ints2 hy
      obtain ⟨rfl, gz, oz, rfl, cz0, cz1⟩ := ints2 ow.ints
      obtain ⟨rfl, gp, op', rfl, cp0, cp1⟩ := ints2 op.ints
      obtain ⟨rfl, gt, ot, rfl, ct0, ct1, ct3, ct4⟩ := ints6 ht
      clear hx hy ow op ht eL eO
      obtain ⟨X, hX⟩ : ∃ X, X = x0 + x1 := ⟨_, rfl⟩
      obtain ⟨Y, hY⟩ : ∃ Y, Y = y0 + y1 := ⟨_, rfl⟩
      obtain ⟨Zs, hZ⟩ : ∃ Z, Z = z0 + z1 := ⟨_, rfl⟩
      rw [← hX, ← hY, ← hZ] at hz
      rw [← hX] at hd
      rw [← hY] at he
      have bX : 0 ≤ X ∧ X ≤ 500 := by omega
      have bY : 0 ≤ Y ∧ Y ≤ 500 := by omega
      have bM : 0 ≤ X * Y ∧ X * Y ≤ 250000 := ⟨Int.mul_nonneg bX.1 bY.1, Int.le_trans (Int.mul_le_mul bX.2 bY.2 bY.1 (by omega)) (by decide)⟩
      obtain ⟨M, hM⟩ : ∃ M, M = X * Y := ⟨_, rfl⟩
      rw [← hM] at hz bM
      have wX : IntKind.i64.wrap (x0 + x1) = X := by rw [← hX]; exact IntWalk.i64_in _ (by omega)
      have wY : IntKind.i64.wrap (y0 + y1) = Y := by rw [← hY]; exact IntWalk.i64_in _ (by omega)
      have wZ : IntKind.i64.wrap (z0 + z1) = Zs := by rw [← hZ]; exact IntWalk.i64_in _ (by omega)
      have wM : IntKind.i64.wrap (X * Y) = M := by rw [← hM]; exact IntWalk.i64_in _ (by omega)
      have wM' : wrap64 (X * Y) = M := by rw [← hM]; exact IntWalk.wrap64_in _ (by omega)
      obtain ⟨R, hR⟩ : ∃ R, R = M % p := ⟨_, rfl⟩
      have mZ : Zs.tmod p = R := by rw [Int.tmod_eq_emod_of_nonneg (by omega), hz, hR]
      have mM : M.tmod p = R := by rw [Int.tmod_eq_emod_of_nonneg bM.1, hR]
      have bR : 0 ≤ R ∧ R ≤ 251 := by rw [hR]; exact ⟨Int.emod_nonneg _ (by omega), by have := Int.emod_lt_of_pos M (by omega : 0 < p); omega⟩
      have wR : IntKind.i64.wrap R = R := IntWalk.i64_in _ (by omega)
      obtain ⟨D1, hD1⟩ : ∃ D, D = X - t0 := ⟨_, rfl⟩
      obtain ⟨D2, hD2⟩ : ∃ D, D = D1 - t3 := ⟨_, rfl⟩
      obtain ⟨E1, hE1⟩ : ∃ D, D = Y - t1 := ⟨_, rfl⟩
      obtain ⟨E2, hE2⟩ : ∃ D, D = E1 - t4 := ⟨_, rfl⟩
      rw [← hD1, ← hD2] at hd
      rw [← hE1, ← hE2] at he
      have wD1 : IntKind.i64.wrap (X - t0) = D1 := by rw [← hD1]; exact IntWalk.i64_in _ (by omega)
      have wD2 : IntKind.i64.wrap (D1 - t3) = D2 := by rw [← hD2]; exact IntWalk.i64_in _ (by omega)
      have wE1 : IntKind.i64.wrap (Y - t1) = E1 := by rw [← hE1]; exact IntWalk.i64_in _ (by omega)
      have wE2 : IntKind.i64.wrap (E1 - t4) = E2 := by rw [← hE2]; exact IntWalk.i64_in _ (by omega)
      have CD := Lib.hid (fun W => pMod_any D2 p W (by omega) (by omega))
      have CE := Lib.hid (fun W => pMod_any E2 p W (by omega) (by omega))
      rw [← hd] at CD
      rw [← he] at CE
      have p0 : ((p == 0) : Bool) = false := by simp; omega
      have p0' : ¬ p = 0 := by omega
      clear hX hY hZ hM hR hD1 hD2 hE1 hE2 hd he hz r0 r1 r3 r4 rx0 rx1 ry0 ry1 rz0 rz1
      go_wp2
      go_quiet (fail)
      have V9 := below_drewN V_w5' nq
      replace cz0 : (w5'.drewN nq).cell? ⟨gz, oz, none⟩ = some (.int .i64 z0) := cz0
      replace cz1 : (w5'.drewN nq).cell? ⟨gz, oz + 1, none⟩ = some (.int .i64 z1) := cz1
      replace cp0 : (w5'.drewN nq).cell? ⟨gp, op', none⟩ = some (.int .i64 d) := cp0
      replace cp1 : (w5'.drewN nq).cell? ⟨gp, op' + 1, none⟩ = some (.int .i64 e) := cp1
      replace ct0 : (w5'.drewN nq).cell? ⟨gt, ot, none⟩ = some (.int .i64 t0) := ct0
      replace ct1 : (w5'.drewN nq).cell? ⟨gt, ot + 1, none⟩ = some (.int .i64 t1) := ct1
      replace ct3 : (w5'.drewN nq).cell? ⟨gt, ot + 3, none⟩ = some (.int .i64 t3) := ct3
      replace ct4 : (w5'.drewN nq).cell? ⟨gt, ot + 4, none⟩ = some (.int .i64 t4) := ct4
      clear cx0 cx1 cy0 cy1
      generalize w5'.drewN nq = wq at *
      go_wp2
      go_quiet (first | (go_at_call 10; with_reducible exact Calls.quiet_of_same (CD.out _)) | (go_at_call 10; with_reducible exact Calls.quiet_of_same (CE.out _)))
      go_wp2_with fail
      go_meet
      case rel => exact below_drewN V9 _

  case rest => as_aux_lemma =>
    clear ow
    clear op
    clear ht
    clear hx
    clear hy
    clear HL V_w5'

    go_wp2_with fail
    refine (DrawGateTriple_any _ _ _ _ (Z1.out.belowAll hcut)).mono ?_
    rintro e w6' ⟨q, key, k, rfl, u_w6'⟩
    have S_w6' := u_w6'.size
    have V_w6' : Below w.heap.size w w6' := hcut.trans (u_w6'.mono hcut.size)
    clear hcut
    clear u_w6'
    go_wp2_with fail
    refine (GateTriple_any q key k _).mono ?_
    rintro e w7' ⟨ga, gn, gc, rfl, og, u_w7'⟩
    have S_w7' := u_w7'.size
    have V_w7' : Below w.heap.size w w7' := V_w6'.trans (u_w7'.mono V_w6'.size)
    clear V_w6'
    clear u_w7'

    go_wp2_with fail
    refine (spec_GateTriple_any q key k _).mono ?_
    rintro e w8' ⟨ha, hn, hc, rfl, oh, u_w8'⟩
    replace og := og.below u_w8'
    have S_w8' := u_w8'.size
    have V_w8' : Below w.heap.size w w8' := V_w7'.trans (u_w8'.mono V_w7'.size)
    clear V_w7'
    clear u_w8'

    have HG : Hid (gtB q key k = true → sixB q (gtO q key k) = true ∧ fitsB q (gtO q key k) = true) := Lib.hid gt_fits
    generalize gtB q key k = one at *
    go_wp2_with fail
    refine (sameInts_same _ _ _ _ _ _ _ _ og.ints oh.ints).mono ?_
    rintro e w9' ⟨rfl, q_w9'⟩
    have u_w9' := below_of_quiet q_w9'
    clear q_w9'
    replace og := og.below u_w9'
    replace oh := oh.below u_w9'
    have S_w9' := u_w9'.size
    have V_w9' : Below w.heap.size w w9' := V_w8'.trans (u_w9'.mono V_w8'.size)
    clear V_w8'
    clear u_w9'
    clear oh
    go_upto_if 176 with fail
    go_cut [] (fun wx => Below w.heap.size w wx)

    case first => as_aux_lemma =>
      cases one
      · go_wp2_with fail
        go_meet
        case rel => exact V_w9'
      · obtain ⟨h6, hf⟩ := HG.out rfl
        go_wp2_with fail
        refine (TripleFits_any q _ _ _ _ _ og.ints).mono ?_
        rintro e w10' ⟨rfl, u_w10'⟩
        replace og := og.below u_w10'
        have S_w10' := u_w10'.size
        have V_w10' : Below w.heap.size w w10' := V_w9'.trans (u_w10'.mono V_w9'.size)
        clear V_w9'
        clear u_w10'
        rw [h6, hf]
        clear h6 hf HG
        go_wp2_with fail
        go_meet
        case rel => exact V_w10'

    case rest => as_aux_lemma =>
      clear og
      clear HG V_w9'

      go_wp2_with fail
      refine (DrawTripleFits_any _ _ _ _ (Z1.out.belowAll hcut)).mono ?_
      rintro e w11' ⟨r, la, ln, lc, l, rfl, hl, u_w11'⟩
      have S_w11' := u_w11'.size
      have V_w11' : Below w.heap.size w w11' := hcut.trans (u_w11'.mono hcut.size)
      clear hcut
      clear u_w11'

      go_wp2_with fail
      refine (TripleFits_any r _ _ _ l _ hl).mono ?_
      rintro e w12' ⟨rfl, u_w12'⟩
      replace hl := hl.below u_w12'
      have S_w12' := u_w12'.size
      have V_w12' : Below w.heap.size w w12' := V_w11'.trans (u_w12'.mono V_w11'.size)
      clear V_w11'
      clear u_w12'
      go_wp2_with fail
      refine (spec_TripleFits_any r _ _ _ l _ hl).mono ?_
      rintro e w13' ⟨rfl, u_w13'⟩
      replace hl := hl.below u_w13'
      have S_w13' := u_w13'.size
      have V_w13' : Below w.heap.size w w13' := V_w12'.trans (u_w13'.mono V_w12'.size)
      clear V_w12'
      clear u_w13'
      clear hl
      generalize (sixB r l && fitsB r l) = b5 at *
      generalize sixB r l = b6 at *
      go_wp2_with fail
      refine (DrawLocalGate_any _ _ _ _ (Z1.out.belowAll V_w13')).mono ?_
      rintro e w14' ⟨P, i0, i1, ga, gn, gc, G, oa, on, oc, O, pt, kk, sa, sn, sc, S, rfl, hG, hO, hS, u_w14'⟩
      have S_w14' := u_w14'.size
      have V_w14' : Below w.heap.size w w14' := V_w13'.trans (u_w14'.mono V_w13'.size)
      clear V_w13'
      clear u_w14'

      go_wp2_with fail
      refine Exists.elim (Blk.new_ w14' (b := w14'.heap.size) rfl 41 #[.int .i64 P, .int .i64 i0, .int .i64 i1, .slice ga gn gc, .slice oa on oc]) (fun w15' q => ?_)
      rw [q.1]; have B_c := q.2.1; have s_w15' := q.2.2.1; have u_w15' := q.2.2.2; clear q
      replace hG := hG.below u_w15'
      replace hO := hO.below u_w15'
      replace hS := hS.below u_w15'
      have S_w15' : w14'.heap.size + 1 ≤ w15'.heap.size := Nat.le_of_eq s_w15'.symm
      have V_w15' := V_w14'.trans (u_w15'.mono (V_w14').size)
      clear u_w15' s_w15' V_w14'
      refine (LocalGate_any P i0 i1 _ _ _ G _ _ _ O pt kk _ _ _ S _ hG hO hS).mono ?_
      rintro e w16' ⟨rfl, u_w16'⟩
      replace B_c := B_c.below u_w16'
      replace hG := hG.below u_w16'
      replace hO := hO.below u_w16'
      replace hS := hS.below u_w16'
      have S_w16' := u_w16'.size
      have V_w16' : Below w.heap.size w w16' := V_w15'.trans (u_w16'.mono V_w15'.size)
      clear V_w15'
      clear u_w16'
      have e_c_0 : w16'.cell? ⟨w14'.heap.size, 0, none⟩ = some (.int .i64 P) := B_c.cell 0
      have e_c_1 : w16'.cell? ⟨w14'.heap.size, 1, none⟩ = some (.int .i64 i0) := B_c.cell 1
      have e_c_2 : w16'.cell? ⟨w14'.heap.size, 2, none⟩ = some (.int .i64 i1) := B_c.cell 2
      have e_c_3 : w16'.cell? ⟨w14'.heap.size, 3, none⟩ = some (.slice ga gn gc) := B_c.cell 3
      have e_c_4 : w16'.cell? ⟨w14'.heap.size, 4, none⟩ = some (.slice oa on oc) := B_c.cell 4
      go_wp2_with fail
      clear e_c_0 e_c_1 e_c_2 e_c_3 e_c_4
      refine (spec_LocalGate_any P i0 i1 _ _ _ G _ _ _ O pt kk _ _ _ S _ hG hO hS).mono ?_
      rintro e w17' ⟨rfl, u_w17'⟩
      replace B_c := B_c.below u_w17'
      replace hG := hG.below u_w17'
      replace hO := hO.below u_w17'
      replace hS := hS.below u_w17'
      have S_w17' := u_w17'.size
      have V_w17' : Below w.heap.size w w17' := V_w16'.trans (u_w17'.mono V_w16'.size)
      clear V_w16'
      clear u_w17'
      generalize lgV P i0 i1 gn G O pt kk S = b7 at *
      generalize lgB P i0 i1 gn G O pt kk S = b8 at *
      go_wp2
      go_ret
      exact ⟨rfl, V_w17'⟩
end Go.Proofs.Ythpcmbdkboajcaa
