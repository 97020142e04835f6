/- Lemmas and walks that the claim's proof rests on, part 11. -/
import Derived.Deep.DeepCutAuto
import Derived.Deep.QuietTactic
import Derived.BigQuiet
import Derived.Test.YtchmakepglaijaaGreatK1
import Derived.Test.YtchmakepglaijaaGreatK2
import Derived.Test.YtchmakepglaijaaGreatK3
import Derived.Test.YtchmakepglaijaaGreatK4
import Derived.Test.YtchmakepglaijaaGreatK5
import Derived.Test.YtchmakepglaijaaGreatK10
namespace Go.Proofs.YtchmakepglaijaaGreat
open Go.RowKit
set_option maxHeartbeats 16000000 in
set_option maxRecDepth 100000 in
theorem FnMixed_walk (a0 : Option Addr) (n0 c0 : Nat) (a1 : Option Addr) (n1 c1 : Nat) (w : World) (z0 : Cod w w.heap.size a0 n0 c0) (z1 : Cod w w.heap.size a1 n1 c1) :
    Calls Tryz.prog 4 #[.slice a0 n0 c0, .slice a1 n1 c1] w fun e w' => e = .returned (.bool true) ∧ Below w.heap.size w w' := by
  have m1 := z0.1
  have m2 := z0.2.1
  have m3 := z1.1
  have m4 := z1.2.1
  unfold maxLen at m2 m4
  have hn : (n0 : Int) ≤ 9223372036854775807 := by omega
  have hn' : (n1 : Int) ≤ 9223372036854775807 := by omega
  clear m1 m2 m3 m4
  have Z1 := Lib.hid z1
  clear z1
  obtain ⟨sm, hsm⟩ : ∃ s, wrap64 ((n0 : Int) + (n1 : Int)) = s := ⟨_, rfl⟩
  by_cases hbig : sm > 1048576
  · go_enter Tryz.func4, Tryz.ntmps4
    go_wp2
    go_ret
    exact ⟨rfl, Below.refl _ _⟩
  have hbig2 : decide (sm > 1048576) = false := decide_eq_false hbig
  go_enter Tryz.func4, Tryz.ntmps4
  go_wp2_with fail
  clear hsm hbig hbig2 hn hn'
  refine (DrawChooseShared_any _ _ _ _ z0).mono ?_
  rintro e w1' ⟨p, key, ba, bn, bc, bit, xa, xn, xc, x, ya, yn, yc, y, rfl, hB, hX, hY, u_w1'⟩
  have S_w1' := u_w1'.size
  have V_w1' : Below w.heap.size w w1' := (Below.refl w.heap.size w).trans (u_w1'.mono (Below.refl w.heap.size w).size)
  clear u_w1'
  clear z0
  go_wp2_with fail
  refine (ChooseShared_any p key _ _ _ bit _ _ _ x _ _ _ y _ hB hX hY).mono ?_
  rintro e w2' ⟨za, zn, zc, rfl, oz, u_w2'⟩
  replace hB := hB.below u_w2'
  replace hX := hX.below u_w2'
  replace hY := hY.below u_w2'
  have S_w2' := u_w2'.size
  have V_w2' : Below w.heap.size w w2' := V_w1'.trans (u_w2'.mono V_w1'.size)
  clear V_w1'
  clear u_w2'
  have hZ0 := oz.ints
  clear oz
  go_wp2_with fail
  refine (spec_ChooseShared_any p key _ _ _ bit _ _ _ x _ _ _ y _ hB hX hY).mono ?_
  rintro e w3' ⟨za2, zn2, zc2, rfl, oz, u_w3'⟩
  replace hB := hB.below u_w3'
  replace hX := hX.below u_w3'
  replace hY := hY.below u_w3'
  replace hZ0 := hZ0.below u_w3'
  have S_w3' := u_w3'.size
  have V_w3' : Below w.heap.size w w3' := V_w2'.trans (u_w3'.mono V_w2'.size)
  clear V_w2'
  clear u_w3'
  have hZ := oz.ints
  clear oz
  have H1 := Lib.hid (fun (h : csB p key bit x y = true) => cs_law h)
  generalize csB p key bit x y = ok at *
  go_wp2_with fail
  refine (DrawMixedSum_any _ _ _ _ (Z1.out.belowAll V_w3')).mono ?_
  rintro e w4' ⟨q, k, ua, un, uc, u, va, vn, vc, v, wa, wn, wc, ww, rfl, hU, hV, hW, u_w4'⟩
  replace hB := hB.below u_w4'
  replace hX := hX.below u_w4'
  replace hY := hY.below u_w4'
  replace hZ0 := hZ0.below u_w4'
  replace hZ := hZ.below u_w4'
  have S_w4' := u_w4'.size
  have V_w4' : Below w.heap.size w w4' := V_w3'.trans (u_w4'.mono V_w3'.size)
  clear V_w3'
  clear u_w4'
  go_wp2_with fail
  refine (MixedSum_any q k _ _ _ u _ _ _ v _ _ _ ww _ hU hV hW).mono ?_
  rintro e w5' ⟨sa, sn, sc, rfl, os, u_w5'⟩
  replace hB := hB.below u_w5'
  replace hX := hX.below u_w5'
  replace hY := hY.below u_w5'
  replace hZ0 := hZ0.below u_w5'
  replace hZ := hZ.below u_w5'
  replace hU := hU.below u_w5'
  replace hV := hV.below u_w5'
  replace hW := hW.below u_w5'
  have S_w5' := u_w5'.size
  have V_w5' : Below w.heap.size w w5' := V_w4'.trans (u_w5'.mono V_w4'.size)
  clear V_w4'
  clear u_w5'
  have hS0 := os.ints
  clear os
  go_wp2_with fail
  refine (spec_MixedSum_any q k _ _ _ u _ _ _ v _ _ _ ww _ hU hV hW).mono ?_
  rintro e w6' ⟨sa2, sn2, sc2, rfl, os, u_w6'⟩
  replace hB := hB.below u_w6'
  replace hX := hX.below u_w6'
  replace hY := hY.below u_w6'
  replace hZ0 := hZ0.below u_w6'
  replace hZ := hZ.below u_w6'
  replace hU := hU.below u_w6'
  replace hV := hV.below u_w6'
  replace hW := hW.below u_w6'
  replace hS0 := hS0.below u_w6'
  have S_w6' := u_w6'.size
  have V_w6' : Below w.heap.size w w6' := V_w5'.trans (u_w6'.mono V_w5'.size)
  clear V_w5'
  clear u_w6'
  have hS := os.ints
  clear os
  have H2 := Lib.hid (fun (h : msB q k u v ww = true) => mx_law h)
  generalize msB q k u v ww = one at *
  go_wp2_with fail
  refine (DrawReduceCircuit_any _ _ _ _ (Z1.out.belowAll V_w6')).mono ?_
  rintro e w7' ⟨r, rfl, u_w7'⟩
  replace hB := hB.below u_w7'
  replace hX := hX.below u_w7'
  replace hY := hY.below u_w7'
  replace hZ0 := hZ0.below u_w7'
  replace hZ := hZ.below u_w7'
  replace hU := hU.below u_w7'
  replace hV := hV.below u_w7'
  replace hW := hW.below u_w7'
  replace hS0 := hS0.below u_w7'
  replace hS := hS.below u_w7'
  have S_w7' := u_w7'.size
  have V_w7' : Below w.heap.size w w7' := V_w6'.trans (u_w7'.mono V_w6'.size)
  clear V_w6'
  clear u_w7'
  go_wp2_with fail
  refine (ReduceCircuit_any r _).mono ?_
  rintro e w8' ⟨ga, gn, gc, oa, on, oc, rfl, og, oo, dd, u_w8'⟩
  replace hB := hB.below u_w8'
  replace hX := hX.below u_w8'
  replace hY := hY.below u_w8'
  replace hZ0 := hZ0.below u_w8'
  replace hZ := hZ.below u_w8'
  replace hU := hU.below u_w8'
  replace hV := hV.below u_w8'
  replace hW := hW.below u_w8'
  replace hS0 := hS0.below u_w8'
  replace hS := hS.below u_w8'
  have S_w8' := u_w8'.size
  have V_w8' : Below w.heap.size w w8' := V_w7'.trans (u_w8'.mono V_w7'.size)
  clear V_w7'
  clear u_w8'
  have hG := og.flat
  have hO := oo.ints
  clear og oo dd
  go_upto_region 11 with fail
  refine Exists.elim (Blk.new_ w8' (b := w8'.heap.size) rfl 49 #[.int .i64 (rcS r), .int .i64 (rcS r), .slice ga gn gc, .slice oa on oc]) (fun w9' q => ?_)
  rw [q.1]; have B_c := q.2.1; have s_w9' := q.2.2.1; have u_w9' := q.2.2.2; clear q
  replace hB := hB.below u_w9'
  replace hX := hX.below u_w9'
  replace hY := hY.below u_w9'
  replace hZ0 := hZ0.below u_w9'
  replace hZ := hZ.below u_w9'
  replace hU := hU.below u_w9'
  replace hV := hV.below u_w9'
  replace hW := hW.below u_w9'
  replace hS0 := hS0.below u_w9'
  replace hS := hS.below u_w9'
  replace hG := hG.below u_w9'
  replace hO := hO.below u_w9'
  have S_w9' : w8'.heap.size + 1 ≤ w9'.heap.size := Nat.le_of_eq s_w9'.symm
  have V_w9' := V_w8'.trans (u_w9'.mono (V_w8').size)
  clear u_w9' s_w9' V_w8'
  go_wp2_with fail
  refine (spec_ReduceCircuit_any r _).mono ?_
  rintro e w10' ⟨ga2, gn2, gc2, oa2, on2, oc2, rfl, og, oo, dd, u_w10'⟩
  replace B_c := B_c.below u_w10'
  replace hB := hB.below u_w10'
  replace hX := hX.below u_w10'
  replace hY := hY.below u_w10'
  replace hZ0 := hZ0.below u_w10'
  replace hZ := hZ.below u_w10'
  replace hU := hU.below u_w10'
  replace hV := hV.below u_w10'
  replace hW := hW.below u_w10'
  replace hS0 := hS0.below u_w10'
  replace hS := hS.below u_w10'
  replace hG := hG.below u_w10'
  replace hO := hO.below u_w10'
  have S_w10' := u_w10'.size
  have V_w10' : Below w.heap.size w w10' := V_w9'.trans (u_w10'.mono V_w9'.size)
  clear V_w9'
  clear u_w10'
  have hG2 := og.flat
  have hO2 := oo.ints
  clear og oo dd
  go_upto_region 12 with fail
  refine Exists.elim (Blk.new_ w10' (b := w10'.heap.size) rfl 49 #[.int .i64 (rcS r), .int .i64 (rcS r), .slice ga2 gn2 gc2, .slice oa2 on2 oc2]) (fun w11' q => ?_)
  rw [q.1]; have B_d := q.2.1; have s_w11' := q.2.2.1; have u_w11' := q.2.2.2; clear q
  replace B_c := B_c.below u_w11'
  replace hB := hB.below u_w11'
  replace hX := hX.below u_w11'
  replace hY := hY.below u_w11'
  replace hZ0 := hZ0.below u_w11'
  replace hZ := hZ.below u_w11'
  replace hU := hU.below u_w11'
  replace hV := hV.below u_w11'
  replace hW := hW.below u_w11'
  replace hS0 := hS0.below u_w11'
  replace hS := hS.below u_w11'
  replace hG := hG.below u_w11'
  replace hO := hO.below u_w11'
  replace hG2 := hG2.below u_w11'
  replace hO2 := hO2.below u_w11'
  have S_w11' : w10'.heap.size + 1 ≤ w11'.heap.size := Nat.le_of_eq s_w11'.symm
  have V_w11' := V_w10'.trans (u_w11'.mono (V_w10').size)
  clear u_w11' s_w11' V_w10'
  obtain ⟨three, h3⟩ : ∃ b, isPr r = b := ⟨_, rfl⟩
  rw [h3]
  have HRR' := Lib.hid h3
  clear h3
  go_wp2_with fail
  refine (DrawOpenedCounts_any _ _ _ _ (Z1.out.belowAll V_w11')).mono ?_
  rintro e w12' ⟨h, b, rfl, u_w12'⟩
  replace B_c := B_c.below u_w12'
  replace B_d := B_d.below u_w12'
  replace hB := hB.below u_w12'
  replace hX := hX.below u_w12'
  replace hY := hY.below u_w12'
  replace hZ0 := hZ0.below u_w12'
  replace hZ := hZ.below u_w12'
  replace hU := hU.below u_w12'
  replace hV := hV.below u_w12'
  replace hW := hW.below u_w12'
  replace hS0 := hS0.below u_w12'
  replace hS := hS.below u_w12'
  replace hG := hG.below u_w12'
  replace hO := hO.below u_w12'
  replace hG2 := hG2.below u_w12'
  replace hO2 := hO2.below u_w12'
  have S_w12' := u_w12'.size
  have V_w12' : Below w.heap.size w w12' := V_w11'.trans (u_w12'.mono V_w11'.size)
  clear V_w11'
  clear u_w12'
  go_wp2_with fail
  refine (OpenedCounts_any h b _).mono ?_
  rintro e w13' ⟨la, ln, lc, rfl, ol, u_w13'⟩
  replace B_c := B_c.below u_w13'
  replace B_d := B_d.below u_w13'
  replace hB := hB.below u_w13'
  replace hX := hX.below u_w13'
  replace hY := hY.below u_w13'
  replace hZ0 := hZ0.below u_w13'
  replace hZ := hZ.below u_w13'
  replace hU := hU.below u_w13'
  replace hV := hV.below u_w13'
  replace hW := hW.below u_w13'
  replace hS0 := hS0.below u_w13'
  replace hS := hS.below u_w13'
  replace hG := hG.below u_w13'
  replace hO := hO.below u_w13'
  replace hG2 := hG2.below u_w13'
  replace hO2 := hO2.below u_w13'
  have S_w13' := u_w13'.size
  have V_w13' : Below w.heap.size w w13' := V_w12'.trans (u_w13'.mono V_w12'.size)
  clear V_w12'
  clear u_w13'
  have hL0 := ol.ints
  clear ol
  go_wp2_with fail
  refine (spec_OpenedCounts_any h b _).mono ?_
  rintro e w14' ⟨la2, ln2, lc2, rfl, ol, u_w14'⟩
  replace B_c := B_c.below u_w14'
  replace B_d := B_d.below u_w14'
  replace hB := hB.below u_w14'
  replace hX := hX.below u_w14'
  replace hY := hY.below u_w14'
  replace hZ0 := hZ0.below u_w14'
  replace hZ := hZ.below u_w14'
  replace hU := hU.below u_w14'
  replace hV := hV.below u_w14'
  replace hW := hW.below u_w14'
  replace hS0 := hS0.below u_w14'
  replace hS := hS.below u_w14'
  replace hG := hG.below u_w14'
  replace hO := hO.below u_w14'
  replace hG2 := hG2.below u_w14'
  replace hO2 := hO2.below u_w14'
  replace hL0 := hL0.below u_w14'
  have S_w14' := u_w14'.size
  have V_w14' : Below w.heap.size w w14' := V_w13'.trans (u_w14'.mono V_w13'.size)
  clear V_w13'
  clear u_w14'
  have hL := ol.ints
  clear ol
  have HL : Hid (ocB h b = true → ocL h b = [1, 1]) := Lib.hid (fun q => if_pos q)
  generalize ocB h b = five at *
  generalize ocL h b = CL at *
  go_upto_region 15 with fail
  go_cut [184] (fun q wx => q = .bool false ∧ Below w14'.heap.size w14' wx)
  case first => as_aux_lemma =>
    go_wp2_with fail
    refine (qInts_same _ _ _ _ _ _ _ _ hZ0 hZ).mono ?_
    rintro e w15' ⟨rfl, q_w15'⟩
    have u_w15' := below_of_quiet q_w15'
    clear q_w15'
    replace B_c := B_c.below u_w15'
    replace B_d := B_d.below u_w15'
    replace hB := hB.below u_w15'
    replace hX := hX.below u_w15'
    replace hY := hY.below u_w15'
    replace hZ0 := hZ0.below u_w15'
    replace hZ := hZ.below u_w15'
    replace hU := hU.below u_w15'
    replace hV := hV.below u_w15'
    replace hW := hW.below u_w15'
    replace hS0 := hS0.below u_w15'
    replace hS := hS.below u_w15'
    replace hG := hG.below u_w15'
    replace hO := hO.below u_w15'
    replace hG2 := hG2.below u_w15'
    replace hO2 := hO2.below u_w15'
    replace hL0 := hL0.below u_w15'
    replace hL := hL.below u_w15'
    have S_w15' := u_w15'.size
    have V_w15' : Below w14'.heap.size w14' w15' := (Below.refl w14'.heap.size w14').trans (u_w15'.mono (Below.refl w14'.heap.size w14').size)
    clear u_w15'
    go_wp2_with fail
    refine (qInts_same _ _ _ _ _ _ _ _ hS0 hS).mono ?_
    rintro e w16' ⟨rfl, q_w16'⟩
    have u_w16' := below_of_quiet q_w16'
    clear q_w16'
    replace B_c := B_c.below u_w16'
    replace B_d := B_d.below u_w16'
    replace hB := hB.below u_w16'
    replace hX := hX.below u_w16'
    replace hY := hY.below u_w16'
    replace hZ0 := hZ0.below u_w16'
    replace hZ := hZ.below u_w16'
    replace hU := hU.below u_w16'
    replace hV := hV.below u_w16'
    replace hW := hW.below u_w16'
    replace hS0 := hS0.below u_w16'
    replace hS := hS.below u_w16'
    replace hG := hG.below u_w16'
    replace hO := hO.below u_w16'
    replace hG2 := hG2.below u_w16'
    replace hO2 := hO2.below u_w16'
    replace hL0 := hL0.below u_w16'
    replace hL := hL.below u_w16'
    have S_w16' := u_w16'.size
    have V_w16' : Below w14'.heap.size w14' w16' := V_w15'.trans (u_w16'.mono V_w15'.size)
    clear V_w15'
    clear u_w16'
    have e_c := B_c.all4
    have e_d := B_d.all4
    go_wp2_with fail
    clear e_c e_d
    refine (qCircuit_same (rcS r) (rcS r) ga gn gc oa on oc ga2 gn2 gc2 oa2 on2 oc2 (rcG r) (rcO r) _ hG hO hG2 hO2).mono ?_
    rintro e w17' ⟨rfl, u_w17'⟩
    replace B_c := B_c.below u_w17'
    replace B_d := B_d.below u_w17'
    replace hB := hB.below u_w17'
    replace hX := hX.below u_w17'
    replace hY := hY.below u_w17'
    replace hZ0 := hZ0.below u_w17'
    replace hZ := hZ.below u_w17'
    replace hU := hU.below u_w17'
    replace hV := hV.below u_w17'
    replace hW := hW.below u_w17'
    replace hS0 := hS0.below u_w17'
    replace hS := hS.below u_w17'
    replace hG := hG.below u_w17'
    replace hO := hO.below u_w17'
    replace hG2 := hG2.below u_w17'
    replace hO2 := hO2.below u_w17'
    replace hL0 := hL0.below u_w17'
    replace hL := hL.below u_w17'
    have S_w17' := u_w17'.size
    have V_w17' : Below w14'.heap.size w14' w17' := V_w16'.trans (u_w17'.mono V_w16'.size)
    clear V_w16'
    clear u_w17'
    go_wp2_with fail
    refine (qInts_same _ _ _ _ _ _ _ _ hL0 hL).mono ?_
    rintro e w18' ⟨rfl, q_w18'⟩
    have u_w18' := below_of_quiet q_w18'
    clear q_w18'
    replace B_c := B_c.below u_w18'
    replace B_d := B_d.below u_w18'
    replace hB := hB.below u_w18'
    replace hX := hX.below u_w18'
    replace hY := hY.below u_w18'
    replace hZ0 := hZ0.below u_w18'
    replace hZ := hZ.below u_w18'
    replace hU := hU.below u_w18'
    replace hV := hV.below u_w18'
    replace hW := hW.below u_w18'
    replace hS0 := hS0.below u_w18'
    replace hS := hS.below u_w18'
    replace hG := hG.below u_w18'
    replace hO := hO.below u_w18'
    replace hG2 := hG2.below u_w18'
    replace hO2 := hO2.below u_w18'
    replace hL0 := hL0.below u_w18'
    replace hL := hL.below u_w18'
    have S_w18' := u_w18'.size
    have V_w18' : Below w14'.heap.size w14' w18' := V_w17'.trans (u_w18'.mono V_w17'.size)
    clear V_w17'
    clear u_w18'
    cases five
    · go_wp2_with fail
      go_meet
      case rel => exact ⟨rfl, V_w18'⟩
    · obtain rfl : CL = [1, 1] := HL.out rfl
      obtain ⟨rfl, gl, ol, rfl, cl0, cl1⟩ := two_at hL
      go_wp2_with fail
      go_meet
      case rel => exact ⟨rfl, V_w18'⟩
  case rest => as_aux_lemma =>
    obtain ⟨rfl, hcut⟩ := hcut
    clear hZ0
    clear hS0
    clear hL0
    clear hL
    clear hG2
    clear hO2
    clear B_d
    clear HL
    have B_c := B_c.below hcut
    have hB := hB.below hcut
    have hX := hX.below hcut
    have hY := hY.below hcut
    have hZ := hZ.below hcut
    have hU := hU.below hcut
    have hV := hV.below hcut
    have hW := hW.below hcut
    have hS := hS.below hcut
    have hG := hG.below hcut
    have hO := hO.below hcut
    have V_wc := V_w14'.trans (hcut.mono V_w14'.size)
    have S_wc := hcut.size
    clear hcut
    go_upto_if 185 with fail
    go_cut [] (fun wx => Below wc.heap.size wc wx)
    case first => as_aux_lemma =>
      cases one
      · go_wp2_with fail
        go_meet
        case rel => exact (Below.refl wc.heap.size wc)
      · skip
        obtain ⟨x0, x1, s0, s1, rfl, eM, l1, l2, B1, B2, ⟨q1, q2⟩, hx0, hx1, hs0, hs1, hvb⟩ := H2.out rfl
        clear H1 H2
        rw [eM] at hS
        clear eM
        clear hB
        clear hX
        clear hY
        clear hZ
        clear hG
        clear hO
        clear B_c
        go_wp2_with fail
        refine (qSum_two _ _ _ x0 x1 _ hW ⟨hx0.1, by omega⟩ ⟨hx1.1, by omega⟩).mono ?_
        rintro e w19' ⟨rfl, q_w19'⟩
        have u_w19' := below_of_quiet q_w19'
        clear q_w19'
        replace hU := hU.below u_w19'
        replace hV := hV.below u_w19'
        replace hW := hW.below u_w19'
        replace hS := hS.below u_w19'
        have S_w19' := u_w19'.size
        have V_w19' : Below wc.heap.size wc w19' := (Below.refl wc.heap.size wc).trans (u_w19'.mono (Below.refl wc.heap.size wc).size)
        clear u_w19'
        obtain rfl : un = u.length := by rw [hU.len]
        obtain rfl : vn = u.length := by rw [hV.len, l1]
        have HB1 := Lib.hid B1
        have HB2 := Lib.hid B2
        have HVR := Lib.hid (vb_rng B1 B2)
        have HVS := Lib.hid (vb_succ u v)
        clear B1 B2 l1
        generalize u.length = W at *
        obtain ⟨I, hI⟩ : ∃ z : Int, z = x0 + x1 := ⟨_, rfl⟩
        rw [← hI] at hvb
        rw [← hI]
        have rI : 0 ≤ I ∧ I ≤ 500 := by omega
        have HVB := Lib.hid hvb
        clear hvb hI hx0 hx1
        have VB := V_w19'
        have SB := (V_w19').size
        go_wp2
        go_loopw [190, 34] (fun v' u' wr => ∃ j : Nat, j ≤ W ∧ v' = .int .i64 j ∧ u' = .int .i64 (I + vb u v j) ∧ Below w19'.heap.size w19' wr) (fun v' _ _ => W - (intOf v').toNat)
        case atStart => exact ⟨0, Nat.zero_le _, rfl, v_int (Int.add_zero I).symm, Below.refl _ _⟩
        case round =>
          obtain ⟨j, hj, rfl, rfl, hb⟩ := hrel
          by_cases hlt : j < W
          · obtain ⟨gs, os, rfl, cs⟩ := (hU.below hb).at j hlt
            obtain ⟨gt, ot, rfl, ct⟩ := (hV.below hb).at j hlt
            have b1 := HB1.out j
            have b2 := HB2.out j
            have HS := Lib.hid (HVS.out j)
            obtain ⟨v0, v1⟩ := HVR.out j
            obtain ⟨p1', p2'⟩ := pow16 j (by omega)
            have hli : (j : Int) < (W : Int) := by omega
            generalize u.getD j 0 = y1 at *
            generalize v.getD j 0 = y2 at *
            generalize vb u v j = V at *
            obtain ⟨U, hU'⟩ : ∃ z : Int, z = I + V := ⟨_, rfl⟩
            rw [← hU']
            obtain ⟨X, hX'⟩ : ∃ z : Int, z = xorI y1 y2 := ⟨_, rfl⟩
            have bX : X = 0 ∨ X = 1 := by rw [hX']; exact xorI_bit b1 b2
            have t1 : bits BinOp.xor IntKind.i64 y1 y2 = X := hX'.symm
            obtain ⟨Y, hY⟩ : ∃ z : Int, z = X * 2 ^ j := ⟨_, rfl⟩
            have rY : 0 ≤ Y ∧ Y ≤ 32768 := by rw [hY]; rcases bX with e | e <;> rw [e] <;> omega
            have t2 : IntKind.i64.wrap (X * 2 ^ j) = Y := by rw [← hY]; exact IntWalk.i64_in _ (by omega)
            have t3 : IntKind.u64.wrap (j : Int) = (j : Int) := IntWalk.u64_in _ (by omega)
            obtain ⟨Z, hZ⟩ : ∃ z : Int, z = U + Y := ⟨_, rfl⟩
            have t5 : IntKind.i64.wrap (U + Y) = Z := by rw [← hZ]; exact IntWalk.i64_in _ (by omega)
            have TZ : Hid (Z = I + vb u v (j + 1)) := Lib.hid (by rw [hZ, HS.out, hU', ← hX', ← hY]; omega)
            have wX : IntKind.i64.wrap X = X := IntWalk.i64_in _ (by omega)
            have hk64 : (j : Int) < 64 := by omega
            clear hU' hX' hY hZ bX rY v0 v1 p1' p2' b1 b2 HS
            go_wp2
            go_quiet (fail)
            have hb2 := below_drewN hb nq
            generalize wr.drewN nq = wq at *
            go_wp2
            go_roundw
            case rel => exact ⟨j + 1, by omega, by go_num, by rw [TZ.out], hb2⟩
            case measure => simp [intOf]; omega
          · obtain rfl : W = j := by omega
            have hU := hU.below hb
            have hV := hV.below hb
            have hW := hW.below hb
            have hS := hS.below hb
            have V_wr := (Below.refl w19'.heap.size w19').trans (hb.mono (Below.refl w19'.heap.size w19').size)
            have S_wr := hb.size
            have C3 := Lib.hid (fun (W : World) (z : Below wr.heap.size wr W) => qSum_two _ _ _ s0 s1 W (hS.below z) ⟨hs0.1, by omega⟩ ⟨hs1.1, by omega⟩)
            clear hU hV hS hW
            obtain ⟨S, hS⟩ : ∃ z : Int, z = s0 + s1 := ⟨_, rfl⟩
            rw [← hS] at C3
            have hv := HVB.out
            rw [← hS] at hv
            obtain ⟨v0, v1⟩ := HVR.out W
            obtain ⟨R, hR⟩ : ∃ z : Int, z = S % q := ⟨_, rfl⟩
            generalize vb u v W = V at *
            obtain ⟨U, hU'⟩ : ∃ z : Int, z = I + V := ⟨_, rfl⟩
            rw [← hU'] at hv ⊢
            have t1 : S.tmod q = R := by rw [Int.tmod_eq_emod_of_nonneg (by omega), ← hR]
            have t2 : U.tmod q = R := by rw [Int.tmod_eq_emod_of_nonneg (by omega), hv, ← hR]
            have rR : 0 ≤ R ∧ R ≤ q := by rw [hR]; have := Int.emod_lt_of_pos S (by omega : 0 < q); exact ⟨Int.emod_nonneg _ (by omega), by omega⟩
            have wR : IntKind.i64.wrap R = R := IntWalk.i64_in _ (by omega)
            have p0 : ((q == 0) : Bool) = false := by simp; omega
            have p0' : ¬ q = 0 := by omega
            have g1 : ((R != R) : Bool) = false := by simp
            clear hS hv v0 v1 hR rR hU' hs0 hs1 HVB
            go_wp2
            go_quiet ((go_at_call 17; with_reducible exact Calls.quiet_of (C3.out _ (below_of_drewN _))))
            go_wp2_with fail
            go_meet
            case rel => exact VB.trans ((below_drewN V_wr _).mono SB)
    case rest => as_aux_lemma =>
      clear H2
      clear hU
      clear hV
      clear hW
      clear hS
      have B_c := B_c.below hcut
      have hB := hB.below hcut
      have hX := hX.below hcut
      have hY := hY.below hcut
      have hZ := hZ.below hcut
      have hG := hG.below hcut
      have hO := hO.below hcut
      have V_wc := V_wc.trans (hcut.mono V_wc.size)
      have S_wc := hcut.size
      clear hcut
      go_upto_if 216 with fail
      go_cut [] (fun wx => Below wc.heap.size wc wx)
      case first => as_aux_lemma =>
        cases three
        · go_wp2_with fail
          go_meet
          case rel => exact (Below.refl wc.heap.size wc)
        · have HRR := HRR'
          clear HRR'
          obtain ⟨p1, p2⟩ := isPr_range HRR.out
          have eS : rcS r = (wid r : Nat) := by unfold rcS; rw [if_pos HRR.out]
          have eG : rcG r = reG r := by unfold rcG; rw [if_pos HRR.out]
          have eO : rcO r = reO r := by unfold rcO; rw [if_pos HRR.out]
          rw [eG] at hG
          rw [eO] at hO
          rw [eS] at B_c
          clear eS eG eO H1
          clear hB
          clear hX
          clear hY
          clear hZ
          have CR := Lib.hid (fun (W : World) (z : Below wc.heap.size wc W) (x y : Int) (hx : 0 ≤ x ∧ x ≤ r - 1) (hy : 0 ≤ y ∧ y ≤ r - 1) => RunWith_re r x y ga gn gc oa on oc W HRR.out hx hy (hG.below z) (hO.below z))
          clear hG hO
          generalize wid r = wr' at *
          have VB := (Below.refl wc.heap.size wc)
          have SB := ((Below.refl wc.heap.size wc)).size
          go_wp2
          go_loopw [36] (fun v' wr => ∃ i : Nat, i ≤ 6 ∧ v' = .int .i64 i ∧ Below wc.heap.size wc wr) (fun v' _ => 6 - (intOf v').toNat)
          case atStart => exact ⟨0, Nat.zero_le _, rfl, Below.refl _ _⟩
          case round =>
            obtain ⟨i, hi, rfl, hb⟩ := hrel
            by_cases hlt : i < 6
            · have hli : (i : Int) < 6 := by omega
              have hnn : 0 ≤ (i : Int) * i ∧ (i : Int) * i ≤ 25 := by
                rcases (by omega : i = 0 ∨ i = 1 ∨ i = 2 ∨ i = 3 ∨ i = 4 ∨ i = 5) with rfl | rfl | rfl | rfl | rfl | rfl <;> decide
              obtain ⟨N2, hN2⟩ : ∃ z : Int, z = (i : Int) * i := ⟨_, rfl⟩
              rw [← hN2] at hnn
              obtain ⟨R2, hR2⟩ : ∃ z : Int, z = r / 2 := ⟨_, rfl⟩
              obtain ⟨T1, hT1⟩ : ∃ z : Int, z = N2 + R2 := ⟨_, rfl⟩
              obtain ⟨A, hA⟩ : ∃ z : Int, z = T1 % r := ⟨_, rfl⟩
              obtain ⟨R1, hR1⟩ : ∃ z : Int, z = r - 1 := ⟨_, rfl⟩
              obtain ⟨T2, hT2⟩ : ∃ z : Int, z = R1 + i := ⟨_, rfl⟩
              obtain ⟨D, hD⟩ : ∃ z : Int, z = T2 % r := ⟨_, rfl⟩
              have rA : 0 ≤ A ∧ A ≤ r - 1 := by rw [hA]; exact mod_range _ _ (by omega)
              have rD : 0 ≤ D ∧ D ≤ r - 1 := by rw [hD]; exact mod_range _ _ (by omega)
              have t1 : IntKind.i64.wrap ((i : Int) * i) = N2 := by rw [← hN2]; exact IntWalk.i64_in _ (by omega)
              have HT1 : Hid (wrap64 ((i : Int) * i) = N2) := Lib.hid (by rw [← hN2]; exact IntWalk.wrap64_in _ (by omega))
              have t2 : r.tdiv 2 = R2 := by rw [hR2]; exact Int.tdiv_eq_ediv_of_nonneg (by omega)
              have t3 : IntKind.i64.wrap R2 = R2 := IntWalk.i64_in _ (by omega)
              have t4 : IntKind.i64.wrap (N2 + R2) = T1 := by rw [← hT1]; exact IntWalk.i64_in _ (by omega)
              have t5 : T1.tmod r = A := by rw [hA]; exact Int.tmod_eq_emod_of_nonneg (by omega)
              have t6 : IntKind.i64.wrap A = A := IntWalk.i64_in _ (by omega)
              have t7 : IntKind.i64.wrap (r - 1) = R1 := by rw [← hR1]; exact IntWalk.i64_in _ (by omega)
              have t8 : IntKind.i64.wrap (R1 + i) = T2 := by rw [← hT2]; exact IntWalk.i64_in _ (by omega)
              have t9 : T2.tmod r = D := by rw [hD]; exact Int.tmod_eq_emod_of_nonneg (by omega)
              have t10 : IntKind.i64.wrap D = D := IntWalk.i64_in _ (by omega)
              have p0 : ((r == 0) : Bool) = false := by simp; omega
              have p0' : ¬ r = 0 := by omega
              have RA := Lib.hid rA
              have RD := Lib.hid rD
              have t1' := HT1.out
              clear HT1 hN2 hR2 hT1 hA hR1 hT2 hD hnn rA rD
              have B_c := B_c.below hb
              have V_wr := (Below.refl wc.heap.size wc).trans (hb.mono (Below.refl wc.heap.size wc).size)
              have S_wr := hb.size
              go_wp2
              go_quiet (fail)
              clear t1 t1' t2 t3 t4 t5 t6 t7 t8 t9 t10
              generalize hwq : wr.drewN nq = wq at *
              have u9 : Below wr.heap.size wr wq := hwq ▸ below_of_drewN nq
              clear hwq
              replace B_c := B_c.below u9
              have S_wq := u9.size
              have V_wq : Below wc.heap.size wc wq := V_wr.trans (u9.mono V_wr.size)
              clear V_wr
              clear u9
              have r1 := RA.out
              have r2 := RD.out
              obtain ⟨T3, hT3⟩ : ∃ z : Int, z = A + D := ⟨_, rfl⟩
              obtain ⟨E, hE⟩ : ∃ z : Int, z = T3 % r := ⟨_, rfl⟩
              have q1 : IntKind.i64.wrap (A + D) = T3 := by rw [← hT3]; exact IntWalk.i64_in _ (by omega)
              have q2 : T3.tmod r = E := by rw [hE]; exact Int.tmod_eq_emod_of_nonneg (by omega)
              have rE : 0 ≤ E ∧ E ≤ r - 1 := by rw [hE]; exact mod_range _ _ (by omega)
              have q3 : IntKind.i64.wrap E = E := IntWalk.i64_in _ (by omega)
              have CQ := Lib.hid (fun (W : World) z => CR.out W z A D RA.out RD.out)
              rw [← hT3, ← hE] at CQ
              have g1 : ((E != E) : Bool) = false := by simp
              clear hT3 hE rE r1 r2
              have e_c := B_c.all4
              go_wp2_with fail
              clear e_c
              refine (CQ.out _ V_wq).mono ?_
              rintro e w20' ⟨rfl, u_w20'⟩
              replace B_c := B_c.below u_w20'
              have S_w20' := u_w20'.size
              have V_w20' : Below wc.heap.size wc w20' := V_wq.trans (u_w20'.mono V_wq.size)
              clear V_wq
              clear u_w20'
              go_wp2
              go_roundw
              case rel => exact ⟨i + 1, by omega, by go_num, V_w20'⟩
              case measure => simp [intOf]; omega
            · obtain rfl : i = 6 := by omega
              go_wp2
              go_meet
              case rel => exact VB.trans (hb.mono SB)
      case rest => as_aux_lemma =>
        clear HRR'
        clear hG
        clear hO
        clear B_c
        have hB := hB.below hcut
        have hX := hX.below hcut
        have hY := hY.below hcut
        have hZ := hZ.below hcut
        have V_wc := V_wc.trans (hcut.mono V_wc.size)
        have S_wc := hcut.size
        clear hcut
        cases ok
        · go_wp2_with fail
          go_ret
          exact ⟨rfl, V_wc⟩
        · obtain ⟨b0, b1, x0, x1, y0, y1, z0, z1, rfl, rfl, rfl, eZ, ⟨p1, p2⟩, hb0, hb1, hx0, hx1, hy0, hy1, hz0, hz1, f1, f0⟩ := H1.out rfl
          clear H1
          rw [eZ] at hZ
          clear eZ
          have CX := Lib.hid (fun (W : World) (z : Below wc.heap.size wc W) => qSum_two _ _ _ x0 x1 W (hX.below z) ⟨hx0.1, by omega⟩ ⟨hx1.1, by omega⟩)
          have CY := Lib.hid (fun (W : World) (z : Below wc.heap.size wc W) => qSum_two _ _ _ y0 y1 W (hY.below z) ⟨hy0.1, by omega⟩ ⟨hy1.1, by omega⟩)
          have CZ := Lib.hid (fun (W : World) (z : Below wc.heap.size wc W) => qSum_two _ _ _ z0 z1 W (hZ.below z) ⟨hz0.1, by omega⟩ ⟨hz1.1, by omega⟩)
          obtain ⟨rfl, gb, ob, rfl, cb0, cb1⟩ := two_at hB
          clear hB hX hY hZ
          obtain ⟨SX, hSX⟩ : ∃ z : Int, z = x0 + x1 := ⟨_, rfl⟩
          obtain ⟨SY, hSY⟩ : ∃ z : Int, z = y0 + y1 := ⟨_, rfl⟩
          obtain ⟨SZ, hSZ⟩ : ∃ z : Int, z = z0 + z1 := ⟨_, rfl⟩
          rw [← hSX] at CX f1
          rw [← hSY] at CY f0
          rw [← hSZ] at CZ f1 f0
          obtain ⟨R, hR⟩ : ∃ z : Int, z = SZ % p := ⟨_, rfl⟩
          have t1 : SZ.tmod p = R := by rw [hR]; exact Int.tmod_eq_emod_of_nonneg (by omega)
          have FX : Hid (xorI b0 b1 = 1 → SX.tmod p = R) := Lib.hid (fun h => by rw [Int.tmod_eq_emod_of_nonneg (by omega), ← f1 h, hR])
          have FY : Hid (xorI b0 b1 ≠ 1 → SY.tmod p = R) := Lib.hid (fun h => by rw [Int.tmod_eq_emod_of_nonneg (by omega), ← f0 h, hR])
          have rR : 0 ≤ R ∧ R ≤ p := by rw [hR]; have := Int.emod_lt_of_pos SZ (by omega : 0 < p); exact ⟨Int.emod_nonneg _ (by omega), by omega⟩
          have wR : IntKind.i64.wrap R = R := IntWalk.i64_in _ (by omega)
          have p0 : ((p == 0) : Bool) = false := by simp; omega
          have p0' : ¬ p = 0 := by omega
          have g1 : ((R == R) : Bool) = true := by simp
          obtain ⟨X, hX'⟩ : ∃ z : Int, z = xorI b0 b1 := ⟨_, rfl⟩
          rw [← hX'] at FX FY
          have t2 : bits BinOp.xor IntKind.i64 b0 b1 = X := hX'.symm
          have bX : X = 0 ∨ X = 1 := by rw [hX']; exact xorI_bit hb0 hb1
          clear hX' hSX hSY hSZ hR rR f1 f0 hb0 hb1 hx0 hx1 hy0 hy1 hz0 hz1
          by_cases hx1 : X = 1
          · subst hx1
            have t3 := FX.out rfl
            clear FX FY bX
            go_wp2
            go_quiet (fail)
            have u9 : Below wc.heap.size wc (wc.drewN nq) := below_of_drewN nq
            generalize wc.drewN nq = wq at *
            have C1 := Lib.hid (fun (W : World) (z : Below wq.heap.size wq W) => CX.out W (u9.trans (z.mono u9.size)))
            have C2 := Lib.hid (fun (W : World) (z : Below wq.heap.size wq W) => CZ.out W (u9.trans (z.mono u9.size)))
            clear t2
            go_wp2
            go_quiet ((go_at_call 17; first | with_reducible exact Calls.quiet_of (C1.out _ (below_of_drewN _)) | with_reducible exact Calls.quiet_of (C2.out _ (below_of_drewN _))))
            go_wp2
            go_ret
            exact ⟨rfl, below_drewN (V_wc.trans (u9.mono (V_wc).size)) _⟩
          · have e1 : ((X == 1) : Bool) = false := by simpa using hx1
            have t3 := FY.out hx1
            clear FX FY bX
            go_wp2
            go_quiet (fail)
            have u9 : Below wc.heap.size wc (wc.drewN nq) := below_of_drewN nq
            generalize wc.drewN nq = wq at *
            have C1 := Lib.hid (fun (W : World) (z : Below wq.heap.size wq W) => CY.out W (u9.trans (z.mono u9.size)))
            have C2 := Lib.hid (fun (W : World) (z : Below wq.heap.size wq W) => CZ.out W (u9.trans (z.mono u9.size)))
            clear t2
            go_wp2
            go_quiet ((go_at_call 17; first | with_reducible exact Calls.quiet_of (C1.out _ (below_of_drewN _)) | with_reducible exact Calls.quiet_of (C2.out _ (below_of_drewN _))))
            go_wp2
            go_ret
            exact ⟨rfl, below_drewN (V_wc.trans (u9.mono (V_wc).size)) _⟩
end Go.Proofs.YtchmakepglaijaaGreat
