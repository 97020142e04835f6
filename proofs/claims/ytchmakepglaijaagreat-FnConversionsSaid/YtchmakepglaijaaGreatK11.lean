/- Lemmas and walks that the claim's proof rests on, part 11. -/
import Derived.Deep.DeepCutAuto
import Derived.Deep.QuietTactic
import Derived.BigQuiet
import Derived.Test.YtchmakepglaijaaGreatK1
import Derived.Test.YtchmakepglaijaaGreatK2
import Derived.Test.YtchmakepglaijaaGreatK9
import Derived.Test.YtchmakepglaijaaGreatK10
namespace Go.Proofs.YtchmakepglaijaaGreat
open Go.RowKit
theorem two_at {w : World} {a : Option Addr} {n c : Nat} {x y : Int} (h : Ints w a n c [x, y]) : n = 2 ∧ ∃ g o, a = some ⟨g, o, none⟩ ∧ w.cell? ⟨g, o, none⟩ = some (.int .i64 x) ∧ w.cell? ⟨g, o + 1, none⟩ = some (.int .i64 y) := by
  have hn : n = 2 := h.len
  obtain ⟨g, o, e, hc⟩ := h.cells (by omega)
  have h0 := hc 0 (by omega)
  have h1 := hc 1 (by omega)
  exact ⟨hn, g, o, e, by simpa using h0, by simpa using h1⟩
theorem qSum_two (a : Option Addr) (n c : Nat) (x y : Int) (w : World) (h : Ints w a n c [x, y]) (h0 : 0 ≤ x ∧ x ≤ 1000) (h1 : 0 ≤ y ∧ y ≤ 1000) :
    Calls Tryz.prog 17 #[.slice a n c] w fun e w' => e = .returned (.int .i64 (x + y)) ∧ ∃ m, w' = w.drewN m := by
  obtain ⟨rfl, g, o, rfl, c0, c1⟩ := two_at h
  clear h
  go_enter Tryz.func17, Tryz.ntmps17
  go_wp2
  go_loopw [8, 3] (fun v u wr => ∃ k : Nat, k ≤ 2 ∧ v = .int .i64 k ∧ u = .int .i64 (if k = 0 then 0 else if k = 1 then x else x + y) ∧ ∃ m, wr = w.drewN m) (fun v _ _ => 2 - (intOf v).toNat)
  case atStart => exact ⟨0, by omega, rfl, rfl, 0, rfl⟩
  case round =>
    obtain ⟨k, hk, rfl, rfl, m, rfl⟩ := hrel
    rcases (by omega : k = 0 ∨ k = 1 ∨ k = 2) with rfl | rfl | rfl
    · have t0 : IntKind.i64.wrap (0 + x) = x := by rw [Int.zero_add]; exact IntWalk.i64_in _ (by omega)
      go_wp2
      go_roundw
      case rel => exact ⟨1, by omega, rfl, rfl, m, rfl⟩
      case measure => simp [intOf]
    · have t0 : IntKind.i64.wrap (x + y) = x + y := IntWalk.i64_in _ (by omega)
      go_wp2
      go_roundw
      case rel => exact ⟨2, by omega, rfl, rfl, m, rfl⟩
      case measure => simp [intOf]
    · go_wp2
      go_ret
      exact ⟨rfl, m, rfl⟩
theorem vb_succ (u v : List Int) (k : Nat) : vb u v (k + 1) = vb u v k + xorI (u.getD k 0) (v.getD k 0) * 2 ^ k := rfl
set_option maxHeartbeats 16000000 in
set_option maxRecDepth 100000 in
theorem FnConversions_walk (a0 : Option Addr) (n0 c0 : Nat) (a1 : Option Addr) (n1 c1 : Nat) (w : World) (z0 : Cod w w.heap.size a0 n0 c0) (z1 : Cod w w.heap.size a1 n1 c1) :
    Calls Tryz.prog 3 #[.slice a0 n0 c0, .slice a1 n1 c1] w fun e w' => e = .returned (.bool true) ∧ Below w.heap.size w w' := by
  have m1 := z0.1
  have m2 := z0.2.1
  have m3 := z1.1
  have m4 := z1.2.1
  unfold maxLen at m2 m4
  have hn : (n0 : Int) ≤ 9223372036854775807 := by omega
  have hn' : (n1 : Int) ≤ 9223372036854775807 := by omega
  clear m1 m2 m3 m4
  have Z1 := Lib.hid z1
  clear z1
  obtain ⟨sm, hsm⟩ : ∃ s, wrap64 ((n0 : Int) + (n1 : Int)) = s := ⟨_, rfl⟩
  by_cases hbig : sm > 1048576
  · go_enter Tryz.func3, Tryz.ntmps3
    go_wp2
    go_ret
    exact ⟨rfl, Below.refl _ _⟩
  have hbig2 : decide (sm > 1048576) = false := decide_eq_false hbig
  go_enter Tryz.func3, Tryz.ntmps3
  go_wp2_with fail
  clear hsm hbig hbig2 hn hn'
  refine (DrawBitsToSum_any _ _ _ _ z0).mono ?_
  rintro e w1' ⟨p, key, ua, un, uc, u, va, vn, vc, v, rfl, hU, hV, u_w1'⟩
  have S_w1' := u_w1'.size
  have V_w1' : Below w.heap.size w w1' := (Below.refl w.heap.size w).trans (u_w1'.mono (Below.refl w.heap.size w).size)
  clear u_w1'
  clear z0
  go_wp2_with fail
  refine (BitsToSum_any p key _ _ _ u _ _ _ v _ hU hV).mono ?_
  rintro e w2' ⟨xa, xn, xc, rfl, ox, u_w2'⟩
  replace hU := hU.below u_w2'
  replace hV := hV.below u_w2'
  have S_w2' := u_w2'.size
  have V_w2' : Below w.heap.size w w2' := V_w1'.trans (u_w2'.mono V_w1'.size)
  clear V_w1'
  clear u_w2'
  have hX0 := ox.ints
  clear ox
  go_wp2_with fail
  refine (spec_BitsToSum_any p key _ _ _ u _ _ _ v _ hU hV).mono ?_
  rintro e w3' ⟨xa2, xn2, xc2, rfl, ox, u_w3'⟩
  replace hU := hU.below u_w3'
  replace hV := hV.below u_w3'
  replace hX0 := hX0.below u_w3'
  have S_w3' := u_w3'.size
  have V_w3' : Below w.heap.size w w3' := V_w2'.trans (u_w3'.mono V_w2'.size)
  clear V_w2'
  clear u_w3'
  have hX := ox.ints
  clear ox
  have H1 := Lib.hid (fun (h : bsB p key u v = true) => bs_law h)
  generalize bsB p key u v = ok at *
  go_wp2_with fail
  refine (DrawSumToBits_any _ _ _ _ (Z1.out.belowAll V_w3')).mono ?_
  rintro e w4' ⟨q, k, pa, pn, pc, pair, rfl, hP, u_w4'⟩
  replace hU := hU.below u_w4'
  replace hV := hV.below u_w4'
  replace hX0 := hX0.below u_w4'
  replace hX := hX.below u_w4'
  have S_w4' := u_w4'.size
  have V_w4' : Below w.heap.size w w4' := V_w3'.trans (u_w4'.mono V_w3'.size)
  clear V_w3'
  clear u_w4'
  go_wp2_with fail
  refine (SumToBits_any q k _ _ _ pair _ hP).mono ?_
  rintro e w5' ⟨sa, sn, sc, ta, tn, tc, rfl, os, ot, ap, u_w5'⟩
  replace hU := hU.below u_w5'
  replace hV := hV.below u_w5'
  replace hX0 := hX0.below u_w5'
  replace hX := hX.below u_w5'
  replace hP := hP.below u_w5'
  have S_w5' := u_w5'.size
  have V_w5' : Below w.heap.size w w5' := V_w4'.trans (u_w5'.mono V_w4'.size)
  clear V_w4'
  clear u_w5'
  have hS0 := os.ints
  have hT0 := ot.ints
  clear os ot ap
  go_wp2_with fail
  refine (spec_SumToBits_any q k _ _ _ pair _ hP).mono ?_
  rintro e w6' ⟨sa2, sn2, sc2, ta2, tn2, tc2, rfl, os, ot, ap, u_w6'⟩
  replace hU := hU.below u_w6'
  replace hV := hV.below u_w6'
  replace hX0 := hX0.below u_w6'
  replace hX := hX.below u_w6'
  replace hP := hP.below u_w6'
  replace hS0 := hS0.below u_w6'
  replace hT0 := hT0.below u_w6'
  have S_w6' := u_w6'.size
  have V_w6' : Below w.heap.size w w6' := V_w5'.trans (u_w6'.mono V_w5'.size)
  clear V_w5'
  clear u_w6'
  have hS := os.ints
  have hT := ot.ints
  clear os ot ap
  have H2 := Lib.hid (fun (h : stB q k pair = true) => st_law h)
  generalize stB q k pair = one at *
  go_wp2_with fail
  refine (DrawBitToSum_any _ _ _ _ (Z1.out.belowAll V_w6')).mono ?_
  rintro e w7' ⟨r, n, i, ba, bn, bc, bit, rfl, hB, u_w7'⟩
  replace hU := hU.below u_w7'
  replace hV := hV.below u_w7'
  replace hX0 := hX0.below u_w7'
  replace hX := hX.below u_w7'
  replace hP := hP.below u_w7'
  replace hS0 := hS0.below u_w7'
  replace hT0 := hT0.below u_w7'
  replace hS := hS.below u_w7'
  replace hT := hT.below u_w7'
  have S_w7' := u_w7'.size
  have V_w7' : Below w.heap.size w w7' := V_w6'.trans (u_w7'.mono V_w6'.size)
  clear V_w6'
  clear u_w7'
  go_wp2_with fail
  refine (BitToSum_any r n i _ _ _ bit _ hB).mono ?_
  rintro e w8' ⟨ya, yn, yc, rfl, oy, u_w8'⟩
  replace hU := hU.below u_w8'
  replace hV := hV.below u_w8'
  replace hX0 := hX0.below u_w8'
  replace hX := hX.below u_w8'
  replace hP := hP.below u_w8'
  replace hS0 := hS0.below u_w8'
  replace hT0 := hT0.below u_w8'
  replace hS := hS.below u_w8'
  replace hT := hT.below u_w8'
  replace hB := hB.below u_w8'
  have S_w8' := u_w8'.size
  have V_w8' : Below w.heap.size w w8' := V_w7'.trans (u_w8'.mono V_w7'.size)
  clear V_w7'
  clear u_w8'
  have hY0 := oy.ints
  clear oy
  go_wp2_with fail
  refine (spec_BitToSum_any r n i _ _ _ bit _ hB).mono ?_
  rintro e w9' ⟨ya2, yn2, yc2, rfl, oy, u_w9'⟩
  replace hU := hU.below u_w9'
  replace hV := hV.below u_w9'
  replace hX0 := hX0.below u_w9'
  replace hX := hX.below u_w9'
  replace hP := hP.below u_w9'
  replace hS0 := hS0.below u_w9'
  replace hT0 := hT0.below u_w9'
  replace hS := hS.below u_w9'
  replace hT := hT.below u_w9'
  replace hB := hB.below u_w9'
  replace hY0 := hY0.below u_w9'
  have S_w9' := u_w9'.size
  have V_w9' : Below w.heap.size w w9' := V_w8'.trans (u_w9'.mono V_w8'.size)
  clear V_w8'
  clear u_w9'
  have hY := oy.ints
  clear oy
  have H3 := Lib.hid (fun (h : btsB r n i bit = true) => bts_law h)
  generalize btsB r n i bit = three at *
  generalize hM : btsM r n i bit = M at *
  have HM := Lib.hid hM
  clear hM
  have em : ((M != M) : Bool) = false := by simp
  go_wp2_with fail
  refine (qInts_same _ _ _ _ _ _ _ _ hX0 hX).mono ?_
  rintro e w10' ⟨rfl, q_w10'⟩
  have u_w10' := below_of_quiet q_w10'
  clear q_w10'
  replace hU := hU.below u_w10'
  replace hV := hV.below u_w10'
  replace hX0 := hX0.below u_w10'
  replace hX := hX.below u_w10'
  replace hP := hP.below u_w10'
  replace hS0 := hS0.below u_w10'
  replace hT0 := hT0.below u_w10'
  replace hS := hS.below u_w10'
  replace hT := hT.below u_w10'
  replace hB := hB.below u_w10'
  replace hY0 := hY0.below u_w10'
  replace hY := hY.below u_w10'
  have S_w10' := u_w10'.size
  have V_w10' : Below w.heap.size w w10' := V_w9'.trans (u_w10'.mono V_w9'.size)
  clear V_w9'
  clear u_w10'
  go_wp2_with fail
  refine (qInts_same _ _ _ _ _ _ _ _ hS0 hS).mono ?_
  rintro e w11' ⟨rfl, q_w11'⟩
  have u_w11' := below_of_quiet q_w11'
  clear q_w11'
  replace hU := hU.below u_w11'
  replace hV := hV.below u_w11'
  replace hX0 := hX0.below u_w11'
  replace hX := hX.below u_w11'
  replace hP := hP.below u_w11'
  replace hS0 := hS0.below u_w11'
  replace hT0 := hT0.below u_w11'
  replace hS := hS.below u_w11'
  replace hT := hT.below u_w11'
  replace hB := hB.below u_w11'
  replace hY0 := hY0.below u_w11'
  replace hY := hY.below u_w11'
  have S_w11' := u_w11'.size
  have V_w11' : Below w.heap.size w w11' := V_w10'.trans (u_w11'.mono V_w10'.size)
  clear V_w10'
  clear u_w11'
  go_wp2_with fail
  refine (qInts_same _ _ _ _ _ _ _ _ hT0 hT).mono ?_
  rintro e w12' ⟨rfl, q_w12'⟩
  have u_w12' := below_of_quiet q_w12'
  clear q_w12'
  replace hU := hU.below u_w12'
  replace hV := hV.below u_w12'
  replace hX0 := hX0.below u_w12'
  replace hX := hX.below u_w12'
  replace hP := hP.below u_w12'
  replace hS0 := hS0.below u_w12'
  replace hT0 := hT0.below u_w12'
  replace hS := hS.below u_w12'
  replace hT := hT.below u_w12'
  replace hB := hB.below u_w12'
  replace hY0 := hY0.below u_w12'
  replace hY := hY.below u_w12'
  have S_w12' := u_w12'.size
  have V_w12' : Below w.heap.size w w12' := V_w11'.trans (u_w12'.mono V_w11'.size)
  clear V_w11'
  clear u_w12'
  go_wp2_with fail
  refine (qInts_same _ _ _ _ _ _ _ _ hY0 hY).mono ?_
  rintro e w13' ⟨rfl, q_w13'⟩
  have u_w13' := below_of_quiet q_w13'
  clear q_w13'
  replace hU := hU.below u_w13'
  replace hV := hV.below u_w13'
  replace hX0 := hX0.below u_w13'
  replace hX := hX.below u_w13'
  replace hP := hP.below u_w13'
  replace hS0 := hS0.below u_w13'
  replace hT0 := hT0.below u_w13'
  replace hS := hS.below u_w13'
  replace hT := hT.below u_w13'
  replace hB := hB.below u_w13'
  replace hY0 := hY0.below u_w13'
  replace hY := hY.below u_w13'
  have S_w13' := u_w13'.size
  have V_w13' : Below w.heap.size w w13' := V_w12'.trans (u_w13'.mono V_w12'.size)
  clear V_w12'
  clear u_w13'
  clear hX0
  clear hS0
  clear hT0
  clear hY0
  go_upto_if 162 with fail
  clear em
  go_cut [] (fun wx => Below w13'.heap.size w13' wx)
  case first => as_aux_lemma =>
    cases three
    · go_wp2_with fail
      go_meet
      case rel => exact (Below.refl w13'.heap.size w13')
    · obtain ⟨y0, y1, s0, s1, b0, b1, q0, q1, rfl, hy0, hy1, e1, e2, e3, e4, ⟨r1, r2⟩, hs0, hs1, hq0, hq1, hb0, hb1, m1, m2, m3⟩ := H3.out rfl
      have HMM := Lib.hid (And.intro m1 (And.intro m2 m3))
      clear H1 H2 H3 HM m1 m2 m3
      clear hU
      clear hV
      clear hX
      clear hP
      clear hS
      clear hT
      go_wp2_with fail
      refine (DoubleBit_any r n i _).mono ?_
      rintro e w14' ⟨ka, kn, kc, la, ln, lc, rfl, ok1, ok2, ap, u_w14'⟩
      replace hB := hB.below u_w14'
      replace hY := hY.below u_w14'
      have S_w14' := u_w14'.size
      have V_w14' : Below w13'.heap.size w13' w14' := (Below.refl w13'.heap.size w13').trans (u_w14'.mono (Below.refl w13'.heap.size w13').size)
      clear u_w14'
      have hK0 := ok1.ints
      have hL0 := ok2.ints
      clear ok1 ok2 ap
      rw [e4]
      go_wp2_with fail
      refine (spec_DoubleBit_any r n i _).mono ?_
      rintro e w15' ⟨ka2, kn2, kc2, la2, ln2, lc2, rfl, ok1, ok2, ap, u_w15'⟩
      replace hB := hB.below u_w15'
      replace hY := hY.below u_w15'
      replace hK0 := hK0.below u_w15'
      replace hL0 := hL0.below u_w15'
      have S_w15' := u_w15'.size
      have V_w15' : Below w13'.heap.size w13' w15' := V_w14'.trans (u_w15'.mono V_w14'.size)
      clear V_w14'
      clear u_w15'
      have hK := ok1.ints
      have hL := ok2.ints
      clear ok1 ok2 ap
      rw [e4]
      rw [e1] at hY
      rw [e2] at hK hK0
      rw [e3] at hL hL0
      have C1 := Lib.hid (fun (W : World) (z : Below w15'.heap.size w15' W) => qInts_same _ _ _ _ _ _ _ W (hK0.below z) (hK.below z))
      have C2 := Lib.hid (fun (W : World) (z : Below w15'.heap.size w15' W) => qInts_same _ _ _ _ _ _ _ W (hL0.below z) (hL.below z))
      have C3 := Lib.hid (fun (W : World) (z : Below w15'.heap.size w15' W) => qSum_two _ _ _ s0 s1 W (hY.below z) ⟨hs0.1, by omega⟩ ⟨hs1.1, by omega⟩)
      have C4 := Lib.hid (fun (W : World) (z : Below w15'.heap.size w15' W) => qSum_two _ _ _ q0 q1 W (hL.below z) ⟨hq0.1, by omega⟩ ⟨hq1.1, by omega⟩)
      obtain ⟨rfl, gb, ob, rfl, cb0, cb1⟩ := two_at hB
      obtain ⟨rfl, gk, ok, rfl, ck0, ck1⟩ := two_at hK
      clear hB hK hL hY hK0 hL0 e1 e2 e3 e4
      obtain ⟨m1, m2, m3⟩ := HMM.out
      clear HMM
      obtain ⟨S, hS⟩ : ∃ x : Int, x = s0 + s1 := ⟨_, rfl⟩
      obtain ⟨Q, hQ⟩ : ∃ x : Int, x = q0 + q1 := ⟨_, rfl⟩
      rw [← hS] at m1 C3
      rw [← hQ] at m2 C4
      obtain ⟨X1, hX1⟩ : ∃ x : Int, x = xorI y0 y1 := ⟨_, rfl⟩
      obtain ⟨X2, hX2⟩ : ∃ x : Int, x = xorI b0 b1 := ⟨_, rfl⟩
      obtain ⟨X3, hX3⟩ : ∃ x : Int, x = xorI X1 b0 := ⟨_, rfl⟩
      rw [← hX1] at m1 m3
      rw [← hX2] at m2
      rw [← hX3] at m3
      have t1 : S.tmod r = X1 := by rw [Int.tmod_eq_emod_of_nonneg (by omega), m1]
      have t2 : Q.tmod r = X2 := by rw [Int.tmod_eq_emod_of_nonneg (by omega), m2]
      have bX1 : X1 = 0 ∨ X1 = 1 := by rw [hX1]; exact xorI_bit hy0 hy1
      have bX2 : X2 = 0 ∨ X2 = 1 := by rw [hX2]; exact xorI_bit hb0 hb1
      have t3 : bits BinOp.xor IntKind.i64 y0 y1 = X1 := hX1.symm
      have t4 : bits BinOp.xor IntKind.i64 b0 b1 = X2 := hX2.symm
      have t5 : bits BinOp.xor IntKind.i64 X1 b0 = X3 := hX3.symm
      have t6 : bits BinOp.xor IntKind.i64 X3 b1 = M := m3.symm
      have w1 : IntKind.i64.wrap X1 = X1 := IntWalk.i64_in _ (by omega)
      have w2 : IntKind.i64.wrap X2 = X2 := IntWalk.i64_in _ (by omega)
      have p0 : ((r == 0) : Bool) = false := by simp; omega
      have p0' : ¬ r = 0 := by omega
      have g1 : ((X1 != X1) : Bool) = false := by simp
      have g2 : ((X2 != X2) : Bool) = false := by simp
      have g3 : ((M != M) : Bool) = false := by simp
      clear hS hQ hX1 hX2 hX3 m1 m2 m3 bX1 bX2 hs0 hs1 hq0 hq1 hb0 hb1 hy0 hy1
      go_wp2
      go_quiet (first | (go_at_call 14; first | with_reducible exact Calls.quiet_of (C1.out _ (below_of_drewN _)) | with_reducible exact Calls.quiet_of (C2.out _ (below_of_drewN _))) | (go_at_call 17; first | with_reducible exact Calls.quiet_of (C3.out _ (below_of_drewN _)) | with_reducible exact Calls.quiet_of (C4.out _ (below_of_drewN _))))
      go_wp2_with fail
      go_meet
      case rel => exact below_drewN V_w15' _
  case rest => as_aux_lemma =>
    clear H3 HM
    clear hB
    clear hY
    have hU := hU.below hcut
    have hV := hV.below hcut
    have hX := hX.below hcut
    have hP := hP.below hcut
    have hS := hS.below hcut
    have hT := hT.below hcut
    have V_wc := V_w13'.trans (hcut.mono V_w13'.size)
    have S_wc := hcut.size
    clear hcut
    go_upto_if 244 with fail
    go_cut [] (fun wx => Below wc.heap.size wc wx)
    case first => as_aux_lemma =>
      cases one
      · go_wp2_with fail
        go_meet
        case rel => exact (Below.refl wc.heap.size wc)
      · obtain ⟨x, y, rfl, hx, hy, ⟨q1, q2⟩, hpr, l1, l2, B1, B2, hvb⟩ := H2.out rfl
        clear H1 H2
        clear hU
        clear hV
        clear hX
        go_wp2_with fail
        refine (WidthFor_any q _).mono ?_
        rintro e w16' ⟨rfl, q_w16'⟩
        have u_w16' := below_of_quiet q_w16'
        clear q_w16'
        replace hP := hP.below u_w16'
        replace hS := hS.below u_w16'
        replace hT := hT.below u_w16'
        have S_w16' := u_w16'.size
        have V_w16' : Below wc.heap.size wc w16' := (Below.refl wc.heap.size wc).trans (u_w16'.mono (Below.refl wc.heap.size wc).size)
        clear u_w16'
        have ew : widV q = (wid q : Nat) := by unfold widV; rw [if_pos hpr]
        rw [ew, hpr]
        clear ew hpr
        have hw8 := wid_le q
        obtain rfl : sn2 = wid q := by rw [hS.len, l1]
        obtain rfl : tn2 = wid q := by rw [hT.len, l2]
        have HB1 := Lib.hid B1
        have HB2 := Lib.hid B2
        have HVB := Lib.hid hvb
        have HVR := Lib.hid (vb_rng B1 B2)
        clear l1 l2 B1 B2 hvb
        have HVS := Lib.hid (vb_succ (stL1 q k [x, y]) (stL2 q k [x, y]))
        generalize stL1 q k [x, y] = L1 at *
        generalize stL2 q k [x, y] = L2 at *
        generalize wid q = W at *
        go_wp2
        go_loopw [252, 40] (fun v u wr => ∃ j : Nat, j ≤ W ∧ v = .int .i64 j ∧ u = .int .i64 (vb L1 L2 j) ∧ Below w16'.heap.size w16' wr) (fun v _ _ => W - (intOf v).toNat)
        case atStart => exact ⟨0, Nat.zero_le _, rfl, rfl, Below.refl _ _⟩
        case round =>
          obtain ⟨j, hj, rfl, rfl, hb⟩ := hrel
          by_cases hlt : j < W
          · obtain ⟨gs, os, rfl, cs⟩ := (hS.below hb).at j hlt
            obtain ⟨gt, ot, rfl, ct⟩ := (hT.below hb).at j hlt
            have b1 := HB1.out j
            have b2 := HB2.out j
            have HS := Lib.hid (HVS.out j)
            obtain ⟨v0, v1⟩ := HVR.out j
            obtain ⟨p1, p2⟩ := pow16 j (by omega)
            have hli : (j : Int) < (W : Int) := by omega
            generalize L1.getD j 0 = x1 at *
            generalize L2.getD j 0 = x2 at *
            generalize vb L1 L2 j = V at *
            obtain ⟨X, hX⟩ : ∃ z : Int, z = xorI x1 x2 := ⟨_, rfl⟩
            have bX : X = 0 ∨ X = 1 := by rw [hX]; exact xorI_bit b1 b2
            have t1 : bits BinOp.xor IntKind.i64 x1 x2 = X := hX.symm
            obtain ⟨Y, hY⟩ : ∃ z : Int, z = X * 2 ^ j := ⟨_, rfl⟩
            have rY : 0 ≤ Y ∧ Y ≤ 32768 := by rw [hY]; rcases bX with e | e <;> rw [e] <;> omega
            have t2 : IntKind.i64.wrap (X * 2 ^ j) = Y := by rw [← hY]; exact IntWalk.i64_in _ (by omega)
            have t3 : IntKind.u64.wrap (j : Int) = (j : Int) := IntWalk.u64_in _ (by omega)
            have T4 : Hid (V + Y = vb L1 L2 (j + 1)) := Lib.hid (by rw [HS.out, ← hX, ← hY])
            obtain ⟨Z, hZ⟩ : ∃ z : Int, z = V + Y := ⟨_, rfl⟩
            have t5 : IntKind.i64.wrap (V + Y) = Z := by rw [← hZ]; exact IntWalk.i64_in _ (by omega)
            have TZ : Hid (Z = vb L1 L2 (j + 1)) := Lib.hid (by rw [hZ, T4.out])
            have wX : IntKind.i64.wrap X = X := IntWalk.i64_in _ (by omega)
            have hk64 : (j : Int) < 64 := by omega
            clear hX hY hZ bX rY v0 v1 p1 p2 b1 b2 HS T4
            go_wp2
            go_quiet (fail)
            have hb2 := below_drewN hb nq
            generalize wr.drewN nq = wq at *
            go_wp2
            go_roundw
            case rel => exact ⟨j + 1, by omega, by go_num, by rw [TZ.out], hb2⟩
            case measure => simp [intOf]; omega
          · obtain rfl : W = j := by omega
            have hP := hP.below hb
            have hS := hS.below hb
            have hT := hT.below hb
            have V_wr := V_w16'.trans (hb.mono V_w16'.size)
            have S_wr := hb.size
            have C3 := Lib.hid (fun (W : World) (z : Below wr.heap.size wr W) => qSum_two _ _ _ x y W (hP.below z) ⟨hx.1, by omega⟩ ⟨hy.1, by omega⟩)
            clear hS hT hP
            obtain ⟨S, hS⟩ : ∃ z : Int, z = x + y := ⟨_, rfl⟩
            rw [← hS] at C3
            have hv := HVB.out
            rw [← hS] at hv
            generalize vb L1 L2 W = V at *
            have t1 : S.tmod q = V := by rw [Int.tmod_eq_emod_of_nonneg (by omega), ← hv]
            have rV : 0 ≤ V ∧ V ≤ q := by rw [hv]; have := Int.emod_lt_of_pos S (by omega : 0 < q); exact ⟨Int.emod_nonneg _ (by omega), by omega⟩
            have wV : IntKind.i64.wrap V = V := IntWalk.i64_in _ (by omega)
            have p0 : ((q == 0) : Bool) = false := by simp; omega
            have p0' : ¬ q = 0 := by omega
            have g1 : ((V != V) : Bool) = false := by simp
            have g2 : (((W : Int) != (W : Int)) : Bool) = false := by simp
            clear hS hv rV hx hy HVB
            go_wp2_with fail
            refine (C3.out _ (Below.refl _ _)).mono ?_; rintro e w' ⟨rfl, m, rfl⟩
            go_wp2
            go_meet
            case rel => exact below_drewN V_wr _
    case rest => as_aux_lemma =>
      clear H2
      clear hP
      clear hS
      clear hT
      have hU := hU.below hcut
      have hV := hV.below hcut
      have hX := hX.below hcut
      have V_wc := V_wc.trans (hcut.mono V_wc.size)
      have S_wc := hcut.size
      clear hcut
      cases ok
      · go_wp2_with fail
        go_ret
        exact ⟨rfl, V_wc⟩
      · obtain ⟨l1, l2, B1, B2, eL, ⟨p1, p2⟩, a0, a1, hvb⟩ := H1.out rfl
        clear H1
        rw [eL] at hX
        clear eL
        obtain rfl : un = u.length := by rw [hU.len]
        obtain rfl : vn = u.length := by rw [hV.len, l1]
        have HB1 := Lib.hid B1
        have HB2 := Lib.hid B2
        have HVR := Lib.hid (vb_rng B1 B2)
        have HVS := Lib.hid (vb_succ u v)
        clear B1 B2 l1
        generalize acc0 p key u v u.length = A0 at *
        generalize acc1 p key u v u.length = A1 at *
        obtain ⟨W, hW⟩ : ∃ W, u.length = W := ⟨_, rfl⟩
        rw [hW] at hU hV l2 hvb
        rw [hW]
        have HVB := Lib.hid hvb
        clear hW hvb
        go_wp2
        go_loopw [290, 42] (fun v' u' wr => ∃ j : Nat, j ≤ W ∧ v' = .int .i64 j ∧ u' = .int .i64 (vb u v j) ∧ Below wc.heap.size wc wr) (fun v' _ _ => W - (intOf v').toNat)
        case atStart => exact ⟨0, Nat.zero_le _, rfl, rfl, Below.refl _ _⟩
        case round =>
          obtain ⟨j, hj, rfl, rfl, hb⟩ := hrel
          by_cases hlt : j < W
          · obtain ⟨gs, os, rfl, cs⟩ := (hU.below hb).at j hlt
            obtain ⟨gt, ot, rfl, ct⟩ := (hV.below hb).at j hlt
            have b1 := HB1.out j
            have b2 := HB2.out j
            have HS := Lib.hid (HVS.out j)
            obtain ⟨v0, v1⟩ := HVR.out j
            obtain ⟨p1', p2'⟩ := pow16 j (by omega)
            have hli : (j : Int) < (W : Int) := by omega
            generalize u.getD j 0 = x1 at *
            generalize v.getD j 0 = x2 at *
            generalize vb u v j = V at *
            obtain ⟨X, hX'⟩ : ∃ z : Int, z = xorI x1 x2 := ⟨_, rfl⟩
            have bX : X = 0 ∨ X = 1 := by rw [hX']; exact xorI_bit b1 b2
            have t1 : bits BinOp.xor IntKind.i64 x1 x2 = X := hX'.symm
            obtain ⟨Y, hY⟩ : ∃ z : Int, z = X * 2 ^ j := ⟨_, rfl⟩
            have rY : 0 ≤ Y ∧ Y ≤ 32768 := by rw [hY]; rcases bX with e | e <;> rw [e] <;> omega
            have t2 : IntKind.i64.wrap (X * 2 ^ j) = Y := by rw [← hY]; exact IntWalk.i64_in _ (by omega)
            have t3 : IntKind.u64.wrap (j : Int) = (j : Int) := IntWalk.u64_in _ (by omega)
            have T4 : Hid (V + Y = vb u v (j + 1)) := Lib.hid (by rw [HS.out, ← hX', ← hY])
            obtain ⟨Z, hZ⟩ : ∃ z : Int, z = V + Y := ⟨_, rfl⟩
            have t5 : IntKind.i64.wrap (V + Y) = Z := by rw [← hZ]; exact IntWalk.i64_in _ (by omega)
            have TZ : Hid (Z = vb u v (j + 1)) := Lib.hid (by rw [hZ, T4.out])
            have wX : IntKind.i64.wrap X = X := IntWalk.i64_in _ (by omega)
            have hk64 : (j : Int) < 64 := by omega
            clear hX' hY hZ bX rY v0 v1 p1' p2' b1 b2 HS T4
            go_wp2
            go_quiet (fail)
            have hb2 := below_drewN hb nq
            generalize wr.drewN nq = wq at *
            go_wp2
            go_roundw
            case rel => exact ⟨j + 1, by omega, by go_num, by rw [TZ.out], hb2⟩
            case measure => simp [intOf]; omega
          · obtain rfl : W = j := by omega
            have hU := hU.below hb
            have hV := hV.below hb
            have hX := hX.below hb
            have V_wr := V_wc.trans (hb.mono V_wc.size)
            have S_wr := hb.size
            have C3 := Lib.hid (fun (W : World) (z : Below wr.heap.size wr W) => qSum_two _ _ _ A0 A1 W (hX.below z) ⟨a0.1, by omega⟩ ⟨a1.1, by omega⟩)
            clear hU hV hX
            obtain ⟨S, hS⟩ : ∃ z : Int, z = A0 + A1 := ⟨_, rfl⟩
            rw [← hS] at C3
            have hv := HVB.out
            rw [← hS] at hv
            obtain ⟨v0, v1⟩ := HVR.out W
            obtain ⟨R, hR⟩ : ∃ z : Int, z = S % p := ⟨_, rfl⟩
            generalize vb u v W = V at *
            have t1 : S.tmod p = R := by rw [Int.tmod_eq_emod_of_nonneg (by omega), ← hR]
            have t2 : V.tmod p = R := by rw [Int.tmod_eq_emod_of_nonneg v0, hv, ← hR]
            have rR : 0 ≤ R ∧ R ≤ p := by rw [hR]; have := Int.emod_lt_of_pos S (by omega : 0 < p); exact ⟨Int.emod_nonneg _ (by omega), by omega⟩
            have wR : IntKind.i64.wrap R = R := IntWalk.i64_in _ (by omega)
            have p0 : ((p == 0) : Bool) = false := by simp; omega
            have p0' : ¬ p = 0 := by omega
            have g1 : ((R == R) : Bool) = true := by simp
            clear hS hv v0 v1 hR rR a0 a1 HVB
            go_wp2
            go_quiet ((go_at_call 17; with_reducible exact Calls.quiet_of (C3.out _ (below_of_drewN _))))
            go_wp2
            go_ret
            exact ⟨rfl, below_drewN V_wr _⟩
end Go.Proofs.YtchmakepglaijaaGreat
