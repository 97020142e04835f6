/- FnSharedSums: shared evaluation gives the values of the circuit, wires are shared, and a fault that is 0 changes nothing. -/
import Derived.Test.YthpcmbdkboajcaaDrawT
import Derived.Test.YthpcmbdkboajcaaSsP
import Derived.Test.YthpcmbdkboajcaaRunI
import Derived.Test.YthpcmbdkboajcaaRunSp
import Derived.Test.YthpcmbdkboajcaaFltI
import Derived.Test.YthpcmbdkboajcaaFltS
import Derived.Deep.DeepCutAuto
import Derived.BigQuiet
namespace Go.Proofs.Ythpcmbdkboajcaa
open Go.RowKit
theorem ints2 {w : World} {a : Option Addr} {n c : Nat} {x y : Int} (h : Ints w a n c [x, y]) : n = 2 ∧ ∃ g o, a = some ⟨g, o, none⟩ ∧ w.cell? ⟨g, o, none⟩ = some (.int .i64 x) ∧ w.cell? ⟨g, o + 1, none⟩ = some (.int .i64 y) := by
  have hn : n = 2 := h.len
  obtain ⟨g, o, e, hc⟩ := h.cells (by omega)
  have h0 := hc 0 (by omega)
  have h1 := hc 1 (by omega)
  exact ⟨hn, g, o, e, by simpa using h0, by simpa using h1⟩
set_option maxHeartbeats 16000000 in
set_option maxRecDepth 100000 in
theorem FnSharedSums_walk (a0 : Option Addr) (n0 c0 : Nat) (a1 : Option Addr) (n1 c1 : Nat) (w : World) (z0 : Cod w w.heap.size a0 n0 c0) (z1 : Cod w w.heap.size a1 n1 c1) :
    Calls Try.prog 4 #[.slice a0 n0 c0, .slice a1 n1 c1] w fun e w' => e = .returned (.bool true) ∧ Below w.heap.size w w' := by
  have hmx : n0 ≤ maxLen := by have := z0.1; have := z0.2.1; omega

  have Z1 := Lib.hid z1
  go_enter Try.func4, Try.ntmps4
  go_wp2_with fail
  refine (big_any _ _ _ _ _ _ _ hmx).mono ?_; rintro e w' ⟨⟨b, rfl⟩, hw⟩
  obtain rfl : w = w' := hw.symm
  clear z1 hmx
  cases b
  rotate_left
  · go_wp2
    go_ret
    exact ⟨rfl, Below.refl _ _⟩
  go_wp2_with fail
  refine (DrawRunShared_any _ _ _ _ z0).mono ?_
  rintro e w1' ⟨P, i0, i1, ga, gn, gc, G, oa, on, oc, O, key, aa, an, ac, A, ba, bn, bc, B, rfl, og, oo, oA, oB, u_w1'⟩
  have S_w1' := u_w1'.size
  have V_w1' : Below w.heap.size w w1' := (Below.refl w.heap.size w).trans (u_w1'.mono (Below.refl w.heap.size w).size)
  clear u_w1'
  clear z0
  have hG := og.flat
  have hO := oo.ints
  have hA := oA.ints
  have hB := oB.ints
  clear og oo oA oB

  go_wp2_with fail
  refine Exists.elim (Blk.new_ w1' (b := w1'.heap.size) rfl 41 #[.int .i64 P, .int .i64 i0, .int .i64 i1, .slice ga gn gc, .slice oa on oc]) (fun w2' q => ?_)
  rw [q.1]; have B_c := q.2.1; have s_w2' := q.2.2.1; have u_w2' := q.2.2.2; clear q
  replace hG := hG.below u_w2'
  replace hO := hO.below u_w2'
  replace hA := hA.below u_w2'
  replace hB := hB.below u_w2'
  have S_w2' : w1'.heap.size + 1 ≤ w2'.heap.size := Nat.le_of_eq s_w2'.symm
  have V_w2' := V_w1'.trans (u_w2'.mono (V_w1').size)
  clear u_w2' s_w2' V_w1'
  refine (RunShared_any P i0 i1 _ _ _ G _ _ _ O key _ _ _ A _ _ _ B _ hG hO hA hB).mono ?_
  rintro e w3' ⟨wa, wn, wc, rfl, ow, u_w3'⟩
  replace B_c := B_c.below u_w3'
  replace hG := hG.below u_w3'
  replace hO := hO.below u_w3'
  replace hA := hA.below u_w3'
  replace hB := hB.below u_w3'
  have S_w3' := u_w3'.size
  have V_w3' : Below w.heap.size w w3' := V_w2'.trans (u_w3'.mono V_w2'.size)
  clear V_w2'
  clear u_w3'
  have hW0 := ow.ints
  clear ow

  have e_c_0 : w3'.cell? ⟨w1'.heap.size, 0, none⟩ = some (.int .i64 P) := B_c.cell 0
  have e_c_1 : w3'.cell? ⟨w1'.heap.size, 1, none⟩ = some (.int .i64 i0) := B_c.cell 1
  have e_c_2 : w3'.cell? ⟨w1'.heap.size, 2, none⟩ = some (.int .i64 i1) := B_c.cell 2
  have e_c_3 : w3'.cell? ⟨w1'.heap.size, 3, none⟩ = some (.slice ga gn gc) := B_c.cell 3
  have e_c_4 : w3'.cell? ⟨w1'.heap.size, 4, none⟩ = some (.slice oa on oc) := B_c.cell 4
  go_wp2_with fail
  clear e_c_0 e_c_1 e_c_2 e_c_3 e_c_4
  refine (spec_RunShared_any P i0 i1 _ _ _ G _ _ _ O key _ _ _ A _ _ _ B _ hG hO hA hB).mono ?_
  rintro e w4' ⟨wa2, wn2, wc2, rfl, ow, u_w4'⟩
  replace B_c := B_c.below u_w4'
  replace hG := hG.below u_w4'
  replace hO := hO.below u_w4'
  replace hA := hA.below u_w4'
  replace hB := hB.below u_w4'
  replace hW0 := hW0.below u_w4'
  have S_w4' := u_w4'.size
  have V_w4' : Below w.heap.size w w4' := V_w3'.trans (u_w4'.mono V_w3'.size)
  clear V_w3'
  clear u_w4'
  have hW := ow.ints
  clear ow

  obtain ⟨ok, hok⟩ : ∃ b, asB P i0 i1 gn G O key A B = b := ⟨_, rfl⟩
  rw [hok]
  have HOK := Lib.hid hok
  clear hok
  go_wp2_with fail
  refine (sameInts_same _ _ _ _ _ _ _ _ hW0 hW).mono ?_
  rintro e w5' ⟨rfl, q_w5'⟩
  have u_w5' := below_of_quiet q_w5'
  clear q_w5'
  replace B_c := B_c.below u_w5'
  replace hG := hG.below u_w5'
  replace hO := hO.below u_w5'
  replace hA := hA.below u_w5'
  replace hB := hB.below u_w5'
  replace hW0 := hW0.below u_w5'
  replace hW := hW.below u_w5'
  have S_w5' := u_w5'.size
  have V_w5' : Below w.heap.size w w5' := V_w4'.trans (u_w5'.mono V_w4'.size)
  clear V_w4'
  clear u_w5'
  clear hW0
  go_upto_if 92 with fail
  go_cut [] (fun wx => Below w.heap.size w wx)

  case first => as_aux_lemma =>
    cases ok
    · go_wp2_with fail
      go_meet
      case rel => exact V_w5'
    · skip
      have e_c_0 : w5'.cell? ⟨w1'.heap.size, 0, none⟩ = some (.int .i64 P) := B_c.cell 0
      have e_c_1 : w5'.cell? ⟨w1'.heap.size, 1, none⟩ = some (.int .i64 i0) := B_c.cell 1
      have e_c_2 : w5'.cell? ⟨w1'.heap.size, 2, none⟩ = some (.int .i64 i1) := B_c.cell 2
      have e_c_3 : w5'.cell? ⟨w1'.heap.size, 3, none⟩ = some (.slice ga gn gc) := B_c.cell 3
      have e_c_4 : w5'.cell? ⟨w1'.heap.size, 4, none⟩ = some (.slice oa on oc) := B_c.cell 4
      go_wp2_with fail
      clear e_c_0 e_c_1 e_c_2 e_c_3 e_c_4
      refine (EvalArith_ok P i0 i1 _ _ _ G _ _ _ O key _ _ _ A _ _ _ B _ hG hO hA hB HOK.out).mono ?_
      rintro e w6' ⟨pa, pc, rfl, op, u_w6'⟩
      replace B_c := B_c.below u_w6'
      replace hG := hG.below u_w6'
      replace hO := hO.below u_w6'
      replace hA := hA.below u_w6'
      replace hB := hB.below u_w6'
      replace hW := hW.below u_w6'
      have S_w6' := u_w6'.size
      have V_w6' : Below w.heap.size w w6' := V_w5'.trans (u_w6'.mono V_w5'.size)
      clear V_w5'
      clear u_w6'
      have hP1 := op.ints
      clear op

      have e_c_0 : w6'.cell? ⟨w1'.heap.size, 0, none⟩ = some (.int .i64 P) := B_c.cell 0
      have e_c_1 : w6'.cell? ⟨w1'.heap.size, 1, none⟩ = some (.int .i64 i0) := B_c.cell 1
      have e_c_2 : w6'.cell? ⟨w1'.heap.size, 2, none⟩ = some (.int .i64 i1) := B_c.cell 2
      have e_c_3 : w6'.cell? ⟨w1'.heap.size, 3, none⟩ = some (.slice ga gn gc) := B_c.cell 3
      have e_c_4 : w6'.cell? ⟨w1'.heap.size, 4, none⟩ = some (.slice oa on oc) := B_c.cell 4
      go_wp2_with fail
      clear e_c_0 e_c_1 e_c_2 e_c_3 e_c_4
      refine (ArithValues_ok P i0 i1 _ _ _ G _ _ _ O key _ _ _ A _ _ _ B _ hG hO hA hB HOK.out).mono ?_
      rintro e w7' ⟨ea, ec, rfl, oe, u_w7'⟩
      replace B_c := B_c.below u_w7'
      replace hG := hG.below u_w7'
      replace hO := hO.below u_w7'
      replace hA := hA.below u_w7'
      replace hB := hB.below u_w7'
      replace hW := hW.below u_w7'
      replace hP1 := hP1.below u_w7'
      have S_w7' := u_w7'.size
      have V_w7' : Below w.heap.size w w7' := V_w6'.trans (u_w7'.mono V_w6'.size)
      clear V_w6'
      clear u_w7'
      have hE := oe.ints
      clear oe

      have e_c_0 : w7'.cell? ⟨w1'.heap.size, 0, none⟩ = some (.int .i64 P) := B_c.cell 0
      have e_c_1 : w7'.cell? ⟨w1'.heap.size, 1, none⟩ = some (.int .i64 i0) := B_c.cell 1
      have e_c_2 : w7'.cell? ⟨w1'.heap.size, 2, none⟩ = some (.int .i64 i1) := B_c.cell 2
      have e_c_3 : w7'.cell? ⟨w1'.heap.size, 3, none⟩ = some (.slice ga gn gc) := B_c.cell 3
      have e_c_4 : w7'.cell? ⟨w1'.heap.size, 4, none⟩ = some (.slice oa on oc) := B_c.cell 4
      go_wp2_with fail
      clear e_c_0 e_c_1 e_c_2 e_c_3 e_c_4
      refine (WireShares_any P i0 i1 _ _ _ G _ _ _ O key _ _ _ A _ _ _ B _ hG hO hA hB).mono ?_
      rintro e w8' ⟨xa, xn, xc, ya, yn, yc, rfl, ox, oy, dxy, u_w8'⟩
      replace B_c := B_c.below u_w8'
      replace hG := hG.below u_w8'
      replace hO := hO.below u_w8'
      replace hA := hA.below u_w8'
      replace hB := hB.below u_w8'
      replace hW := hW.below u_w8'
      replace hP1 := hP1.below u_w8'
      replace hE := hE.below u_w8'
      have S_w8' := u_w8'.size
      have V_w8' : Below w.heap.size w w8' := V_w7'.trans (u_w8'.mono V_w7'.size)
      clear V_w7'
      clear u_w8'
      clear dxy
      have hX := ox.ints
      have hY := oy.ints
      clear ox oy

      rw [HOK.out]
      have e_c_0 : w8'.cell? ⟨w1'.heap.size, 0, none⟩ = some (.int .i64 P) := B_c.cell 0
      have e_c_1 : w8'.cell? ⟨w1'.heap.size, 1, none⟩ = some (.int .i64 i0) := B_c.cell 1
      have e_c_2 : w8'.cell? ⟨w1'.heap.size, 2, none⟩ = some (.int .i64 i1) := B_c.cell 2
      have e_c_3 : w8'.cell? ⟨w1'.heap.size, 3, none⟩ = some (.slice ga gn gc) := B_c.cell 3
      have e_c_4 : w8'.cell? ⟨w1'.heap.size, 4, none⟩ = some (.slice oa on oc) := B_c.cell 4
      go_wp2_with fail
      clear e_c_0 e_c_1 e_c_2 e_c_3 e_c_4
      refine (spec_WireShares_any P i0 i1 _ _ _ G _ _ _ O key _ _ _ A _ _ _ B _ hG hO hA hB).mono ?_
      rintro e w9' ⟨ua, un, uc, va, vn, vc, rfl, ou, ov, duv, u_w9'⟩
      replace B_c := B_c.below u_w9'
      replace hG := hG.below u_w9'
      replace hO := hO.below u_w9'
      replace hA := hA.below u_w9'
      replace hB := hB.below u_w9'
      replace hW := hW.below u_w9'
      replace hP1 := hP1.below u_w9'
      replace hE := hE.below u_w9'
      replace hX := hX.below u_w9'
      replace hY := hY.below u_w9'
      have S_w9' := u_w9'.size
      have V_w9' : Below w.heap.size w w9' := V_w8'.trans (u_w9'.mono V_w8'.size)
      clear V_w8'
      clear u_w9'
      clear duv
      have hU := ou.ints
      have hV := ov.ints
      clear ou ov

      rw [HOK.out]
      have F := Lib.hid (ss_law HOK.out)
      have hla : A.length = an := hA.len.symm
      have hlb : B.length = bn := hB.len.symm
      have hlo : O.length = on := hO.len.symm
      have hgn := F.out.g
      have hon := F.out.o
      have hll := F.out.lens
      rw [F.out.out, hlo] at hW
      obtain rfl : un = an + bn + gn := by have := hU.len; have := F.out.l1; omega
      obtain rfl : vn = an + bn + gn := by have := hV.len; have := F.out.l2; omega
      go_wp2_with fail
      refine (sameInts_same _ _ _ _ _ _ _ _ hP1 hW).mono ?_
      rintro e w10' ⟨rfl, q_w10'⟩
      have u_w10' := below_of_quiet q_w10'
      clear q_w10'
      replace B_c := B_c.below u_w10'
      replace hG := hG.below u_w10'
      replace hO := hO.below u_w10'
      replace hA := hA.below u_w10'
      replace hB := hB.below u_w10'
      replace hW := hW.below u_w10'
      replace hP1 := hP1.below u_w10'
      replace hE := hE.below u_w10'
      replace hX := hX.below u_w10'
      replace hY := hY.below u_w10'
      replace hU := hU.below u_w10'
      replace hV := hV.below u_w10'
      have S_w10' := u_w10'.size
      have V_w10' : Below w.heap.size w w10' := V_w9'.trans (u_w10'.mono V_w9'.size)
      clear V_w9'
      clear u_w10'
      go_wp2_with fail
      refine (sameInts_same _ _ _ _ _ _ _ _ hX hU).mono ?_
      rintro e w11' ⟨rfl, q_w11'⟩
      have u_w11' := below_of_quiet q_w11'
      clear q_w11'
      replace B_c := B_c.below u_w11'
      replace hG := hG.below u_w11'
      replace hO := hO.below u_w11'
      replace hA := hA.below u_w11'
      replace hB := hB.below u_w11'
      replace hW := hW.below u_w11'
      replace hP1 := hP1.below u_w11'
      replace hE := hE.below u_w11'
      replace hX := hX.below u_w11'
      replace hY := hY.below u_w11'
      replace hU := hU.below u_w11'
      replace hV := hV.below u_w11'
      have S_w11' := u_w11'.size
      have V_w11' : Below w.heap.size w w11' := V_w10'.trans (u_w11'.mono V_w10'.size)
      clear V_w10'
      clear u_w11'
      go_wp2_with fail
      refine (sameInts_same _ _ _ _ _ _ _ _ hY hV).mono ?_
      rintro e w12' ⟨rfl, q_w12'⟩
      have u_w12' := below_of_quiet q_w12'
      clear q_w12'
      replace B_c := B_c.below u_w12'
      replace hG := hG.below u_w12'
      replace hO := hO.below u_w12'
      replace hA := hA.below u_w12'
      replace hB := hB.below u_w12'
      replace hW := hW.below u_w12'
      replace hP1 := hP1.below u_w12'
      replace hE := hE.below u_w12'
      replace hX := hX.below u_w12'
      replace hY := hY.below u_w12'
      replace hU := hU.below u_w12'
      replace hV := hV.below u_w12'
      have S_w12' := u_w12'.size
      have V_w12' : Below w.heap.size w w12' := V_w11'.trans (u_w12'.mono V_w11'.size)
      clear V_w11'
      clear u_w12'
      clear hP1
      clear hW
      clear hX
      clear hY
      have HSUM : Hid (∀ i, i < an + bn + gn → ((wsL1 P i0 i1 gn G O key A B).getD i 0 + (wsL2 P i0 i1 gn G O key A B).getD i 0) % P = (avR P G (A ++ B) gn).getD i 0) := Lib.hid (by rw [← hla, ← hlb]; exact F.out.sum)
      have HR1 := Lib.hid F.out.r1
      have HR2 := Lib.hid F.out.r2
      have hPP := F.out.hp
      generalize wsL1 P i0 i1 gn G O key A B = L1 at *
      generalize wsL2 P i0 i1 gn G O key A B = L2 at *
      generalize avR P G (A ++ B) gn = L0 at *
      obtain ⟨N, hN⟩ : ∃ N, N = an + bn + gn := ⟨_, rfl⟩
      rw [← hN] at hE hU hV HSUM
      rw [← hN]
      have hN3 : N ≤ 200 := by omega
      clear hN hll
      have e00 : ((N : Int) != (N : Int)) = false := by simp
      have p0 : ((P == 0) : Bool) = false := by simp; omega
      have p0' : ¬ P = 0 := by omega
      go_wp2
      clear e00
      go_loopw [166] (fun v wr => ∃ i : Nat, i ≤ N ∧ v = .int .i64 i ∧ Below w12'.heap.size w12' wr) (fun v _ => N - (intOf v).toNat)
      case atStart => exact ⟨0, Nat.zero_le _, rfl, Below.refl _ _⟩
      case round =>
        obtain ⟨i, hi, rfl, hb⟩ := hrel
        by_cases hlt : i < N

        · obtain ⟨ge, oe, rfl, ce⟩ := (hE.below hb).at i hlt
          obtain ⟨gu, ou, rfl, cu⟩ := (hU.below hb).at i hlt
          obtain ⟨gv, ov, rfl, cv⟩ := (hV.below hb).at i hlt
          have r1 := HR1.out i
          have r2 := HR2.out i
          have hs := HSUM.out i hlt
          have hli : (i : Int) < (N : Int) := by omega
          have e_c_0 := (B_c.below hb).cell 0
          generalize L1.getD i 0 = x1 at *
          generalize L2.getD i 0 = x2 at *
          generalize L0.getD i 0 = x0 at *
          obtain ⟨sx, hsx⟩ : ∃ s, s = x1 + x2 := ⟨_, rfl⟩
          rw [← hsx] at hs
          have wx : IntKind.i64.wrap (x1 + x2) = sx := by rw [← hsx]; exact IntWalk.i64_in _ (by omega)
          have tm : sx.tmod P = x0 := by rw [Int.tmod_eq_emod_of_nonneg (by omega), hs]
          have e0 : ((x0 != x0) : Bool) = false := by simp
          clear hs hsx r1 r2
          go_wp2
          go_quiet (fail)
          have hb2 := below_drewN hb nq
          generalize wr.drewN nq = wq at *
          go_wp2
          go_roundw
          case rel => exact ⟨i + 1, by omega, by go_num, hb2⟩
          case measure => simp [intOf]; omega

        · obtain rfl : N = i := by omega
          have B_c := B_c.below hb
          have hG := hG.below hb
          have hO := hO.below hb
          have hA := hA.below hb
          have hB := hB.below hb
          have hE := hE.below hb
          have hU := hU.below hb
          have hV := hV.below hb
          have V_wr := V_w12'.trans (hb.mono V_w12'.size)
          have S_wr := hb.size
          clear hE hU hV

          have e_c_0 : wr.cell? ⟨w1'.heap.size, 0, none⟩ = some (.int .i64 P) := B_c.cell 0
          have e_c_1 : wr.cell? ⟨w1'.heap.size, 1, none⟩ = some (.int .i64 i0) := B_c.cell 1
          have e_c_2 : wr.cell? ⟨w1'.heap.size, 2, none⟩ = some (.int .i64 i1) := B_c.cell 2
          have e_c_3 : wr.cell? ⟨w1'.heap.size, 3, none⟩ = some (.slice ga gn gc) := B_c.cell 3
          have e_c_4 : wr.cell? ⟨w1'.heap.size, 4, none⟩ = some (.slice oa on oc) := B_c.cell 4
          go_wp2_with fail
          clear e_c_0 e_c_1 e_c_2 e_c_3 e_c_4
          refine (OpenedPairs_any P i0 i1 _ _ _ G _ _ _ O key _ _ _ A _ _ _ B _ hG hO hA hB).mono ?_
          rintro e w13' ⟨qa, qn, qc, rs, rfl, oq, eq1, u_w13'⟩
          replace B_c := B_c.below u_w13'
          replace hG := hG.below u_w13'
          replace hO := hO.below u_w13'
          replace hA := hA.below u_w13'
          replace hB := hB.below u_w13'
          have S_w13' := u_w13'.size
          have V_w13' : Below w.heap.size w w13' := V_wr.trans (u_w13'.mono V_wr.size)
          clear V_wr
          clear u_w13'
          have hQ := oq.reads
          clear oq

          rw [HOK.out]
          have e_c_0 : w13'.cell? ⟨w1'.heap.size, 0, none⟩ = some (.int .i64 P) := B_c.cell 0
          have e_c_1 : w13'.cell? ⟨w1'.heap.size, 1, none⟩ = some (.int .i64 i0) := B_c.cell 1
          have e_c_2 : w13'.cell? ⟨w1'.heap.size, 2, none⟩ = some (.int .i64 i1) := B_c.cell 2
          have e_c_3 : w13'.cell? ⟨w1'.heap.size, 3, none⟩ = some (.slice ga gn gc) := B_c.cell 3
          have e_c_4 : w13'.cell? ⟨w1'.heap.size, 4, none⟩ = some (.slice oa on oc) := B_c.cell 4
          go_wp2_with fail
          clear e_c_0 e_c_1 e_c_2 e_c_3 e_c_4
          refine (spec_OpenedPairs_any P i0 i1 _ _ _ G _ _ _ O key _ _ _ A _ _ _ B _ hG hO hA hB).mono ?_
          rintro e w14' ⟨ra, rn, rc, rs2, rfl, orr, eq2, u_w14'⟩
          replace B_c := B_c.below u_w14'
          replace hG := hG.below u_w14'
          replace hO := hO.below u_w14'
          replace hA := hA.below u_w14'
          replace hB := hB.below u_w14'
          replace hQ := hQ.below u_w14'
          have S_w14' := u_w14'.size
          have V_w14' : Below w.heap.size w w14' := V_w13'.trans (u_w14'.mono V_w13'.size)
          clear V_w13'
          clear u_w14'
          have hR := orr.reads
          clear orr

          rw [HOK.out]
          have e_c_0 : w14'.cell? ⟨w1'.heap.size, 0, none⟩ = some (.int .i64 P) := B_c.cell 0
          have e_c_1 : w14'.cell? ⟨w1'.heap.size, 1, none⟩ = some (.int .i64 i0) := B_c.cell 1
          have e_c_2 : w14'.cell? ⟨w1'.heap.size, 2, none⟩ = some (.int .i64 i1) := B_c.cell 2
          have e_c_3 : w14'.cell? ⟨w1'.heap.size, 3, none⟩ = some (.slice ga gn gc) := B_c.cell 3
          have e_c_4 : w14'.cell? ⟨w1'.heap.size, 4, none⟩ = some (.slice oa on oc) := B_c.cell 4
          go_wp2_with fail
          clear e_c_0 e_c_1 e_c_2 e_c_3 e_c_4
          refine (TrafficOf_any P i0 i1 _ _ _ G _ _ _ O _ hG hO).mono ?_
          rintro e w15' ⟨ta, tn, tc, rfl, ot, u_w15'⟩
          replace B_c := B_c.below u_w15'
          replace hG := hG.below u_w15'
          replace hO := hO.below u_w15'
          replace hA := hA.below u_w15'
          replace hB := hB.below u_w15'
          replace hQ := hQ.below u_w15'
          replace hR := hR.below u_w15'
          have S_w15' := u_w15'.size
          have V_w15' : Below w.heap.size w w15' := V_w14'.trans (u_w15'.mono V_w14'.size)
          clear V_w14'
          clear u_w15'
          have hT := ot.ints
          clear ot

          rw [F.out.ar]
          have e_c_0 : w15'.cell? ⟨w1'.heap.size, 0, none⟩ = some (.int .i64 P) := B_c.cell 0
          have e_c_1 : w15'.cell? ⟨w1'.heap.size, 1, none⟩ = some (.int .i64 i0) := B_c.cell 1
          have e_c_2 : w15'.cell? ⟨w1'.heap.size, 2, none⟩ = some (.int .i64 i1) := B_c.cell 2
          have e_c_3 : w15'.cell? ⟨w1'.heap.size, 3, none⟩ = some (.slice ga gn gc) := B_c.cell 3
          have e_c_4 : w15'.cell? ⟨w1'.heap.size, 4, none⟩ = some (.slice oa on oc) := B_c.cell 4
          go_wp2_with fail
          clear e_c_0 e_c_1 e_c_2 e_c_3 e_c_4
          refine (spec_TrafficOf_any P i0 i1 _ _ _ G _ _ _ O _ hG hO).mono ?_
          rintro e w16' ⟨sa, sn, sc, rfl, os, u_w16'⟩
          replace B_c := B_c.below u_w16'
          replace hG := hG.below u_w16'
          replace hO := hO.below u_w16'
          replace hA := hA.below u_w16'
          replace hB := hB.below u_w16'
          replace hQ := hQ.below u_w16'
          replace hR := hR.below u_w16'
          replace hT := hT.below u_w16'
          have S_w16' := u_w16'.size
          have V_w16' : Below w.heap.size w w16' := V_w15'.trans (u_w16'.mono V_w15'.size)
          clear V_w15'
          clear u_w16'
          have hS := os.ints
          clear os

          rw [F.out.ar]
          have hop := F.out.op
          have hio := F.out.hi
          rw [F.out.tr] at hT hS
          rw [← eq2, datas_len, hR.len] at hop
          have hrn : rn ≤ 100 := by have := (cnt_rng G 1 gn).2; omega
          rw [← hop, hlo] at hT hS
          have CL := Lib.hid (fun (W : World) (q : Below w16'.heap.size w16' W) => sameLists_q _ _ _ _ _ _ rs rs2 W (hQ.below q) (hR.below q) (eq1.trans eq2.symm))
          have CT := Lib.hid (fun (W : World) (q : Below w16'.heap.size w16' W) => sameInts_same _ _ _ _ _ _ _ W (hT.below q) (hS.below q))
          obtain ⟨rfl, gs, os, rfl, s0, s1⟩ := ints2 hS
          clear s1 hS hT hQ hR eq1 eq2 hop

          obtain ⟨X1, hX1⟩ : ∃ x : Int, x = 2 * (rn : Int) := ⟨_, rfl⟩
          obtain ⟨X2, hX2⟩ : ∃ x : Int, x = i0 + X1 := ⟨_, rfl⟩
          obtain ⟨X3, hX3⟩ : ∃ x : Int, x = X2 + (on : Int) := ⟨_, rfl⟩
          rw [show i0 + (2 * (rn : Int) + (on : Int)) = X3 by omega] at s0
          have t1 : IntKind.i64.wrap (2 * (rn : Int)) = X1 := by rw [← hX1]; exact IntWalk.i64_in _ (by omega)
          have t1' : wrap64 (2 * (rn : Int)) = X1 := by rw [← hX1]; exact IntWalk.wrap64_in _ (by omega)
          have t2 : IntKind.i64.wrap (i0 + X1) = X2 := by rw [← hX2]; exact IntWalk.i64_in _ (by omega)
          have t3 : IntKind.i64.wrap (X2 + (on : Int)) = X3 := by rw [← hX3]; exact IntWalk.i64_in _ (by omega)
          have e0 : ((X3 != X3) : Bool) = false := by simp
          clear hX1 hX2 hX3 hla hlb hlo
          have e_c_0 : w16'.cell? ⟨w1'.heap.size, 0, none⟩ = some (.int .i64 P) := B_c.cell 0
          have e_c_1 : w16'.cell? ⟨w1'.heap.size, 1, none⟩ = some (.int .i64 i0) := B_c.cell 1
          have e_c_2 : w16'.cell? ⟨w1'.heap.size, 2, none⟩ = some (.int .i64 i1) := B_c.cell 2
          have e_c_3 : w16'.cell? ⟨w1'.heap.size, 3, none⟩ = some (.slice ga gn gc) := B_c.cell 3
          have e_c_4 : w16'.cell? ⟨w1'.heap.size, 4, none⟩ = some (.slice oa on oc) := B_c.cell 4
          go_wp2
          go_quiet (first | (go_at_call 31; with_reducible exact Calls.quiet_of (CL.out _ (below_of_drewN _))) | (go_at_call 9; with_reducible exact Calls.quiet_of (CT.out _ (below_of_drewN _))))
          go_wp2_with fail
          go_meet
          case rel => exact below_drewN V_w16' _

  case rest => as_aux_lemma =>
    clear hG
    clear hO
    clear hA
    clear hB
    clear hW
    clear HOK V_w5' B_c


    go_wp2_with fail
    refine (DrawRunWithFault_any _ _ _ _ (Z1.out.belowAll hcut)).mono ?_
    rintro e w17' ⟨P, i0, i1, ga, gn, gc, G, oa, on, oc, O, key, aa, an, ac, A, ba, bn, bc, B, pt, ch, rfl, og, oo, oA, oB, u_w17'⟩
    have S_w17' := u_w17'.size
    have V_w17' : Below w.heap.size w w17' := hcut.trans (u_w17'.mono hcut.size)
    clear hcut
    clear u_w17'
    have hG := og.flat
    have hO := oo.ints
    have hA := oA.ints
    have hB := oB.ints
    clear og oo oA oB

    go_wp2_with fail
    refine Exists.elim (Blk.new_ w17' (b := w17'.heap.size) rfl 41 #[.int .i64 P, .int .i64 i0, .int .i64 i1, .slice ga gn gc, .slice oa on oc]) (fun w18' q => ?_)
    rw [q.1]; have B_d := q.2.1; have s_w18' := q.2.2.1; have u_w18' := q.2.2.2; clear q
    replace hG := hG.below u_w18'
    replace hO := hO.below u_w18'
    replace hA := hA.below u_w18'
    replace hB := hB.below u_w18'
    have S_w18' : w17'.heap.size + 1 ≤ w18'.heap.size := Nat.le_of_eq s_w18'.symm
    have V_w18' := V_w17'.trans (u_w18'.mono (V_w17').size)
    clear u_w18' s_w18' V_w17'
    refine (RunWithFault_any P i0 i1 _ _ _ G _ _ _ O key _ _ _ A _ _ _ B pt ch _ hG hO hA hB).mono ?_
    rintro e w19' ⟨wa, wn, wc2, rfl, ow, u_w19'⟩
    replace B_d := B_d.below u_w19'
    replace hG := hG.below u_w19'
    replace hO := hO.below u_w19'
    replace hA := hA.below u_w19'
    replace hB := hB.below u_w19'
    have S_w19' := u_w19'.size
    have V_w19' : Below w.heap.size w w19' := V_w18'.trans (u_w19'.mono V_w18'.size)
    clear V_w18'
    clear u_w19'
    have hW0 := ow.ints
    clear ow

    have e_d_0 : w19'.cell? ⟨w17'.heap.size, 0, none⟩ = some (.int .i64 P) := B_d.cell 0
    have e_d_1 : w19'.cell? ⟨w17'.heap.size, 1, none⟩ = some (.int .i64 i0) := B_d.cell 1
    have e_d_2 : w19'.cell? ⟨w17'.heap.size, 2, none⟩ = some (.int .i64 i1) := B_d.cell 2
    have e_d_3 : w19'.cell? ⟨w17'.heap.size, 3, none⟩ = some (.slice ga gn gc) := B_d.cell 3
    have e_d_4 : w19'.cell? ⟨w17'.heap.size, 4, none⟩ = some (.slice oa on oc) := B_d.cell 4
    go_wp2_with fail
    clear e_d_0 e_d_1 e_d_2 e_d_3 e_d_4
    refine (spec_RunWithFault_any P i0 i1 _ _ _ G _ _ _ O key _ _ _ A _ _ _ B pt ch _ hG hO hA hB).mono ?_
    rintro e w20' ⟨wa2, wn2, wc3, rfl, ow, u_w20'⟩
    replace B_d := B_d.below u_w20'
    replace hG := hG.below u_w20'
    replace hO := hO.below u_w20'
    replace hA := hA.below u_w20'
    replace hB := hB.below u_w20'
    replace hW0 := hW0.below u_w20'
    have S_w20' := u_w20'.size
    have V_w20' : Below w.heap.size w w20' := V_w19'.trans (u_w20'.mono V_w19'.size)
    clear V_w19'
    clear u_w20'
    have hW := ow.ints
    clear ow

    have HF := Lib.hid (fun (h : rfB P i0 i1 gn G O key A B pt ch = true) => rf_law h)
    generalize rfB P i0 i1 gn G O key A B pt ch = one at *
    go_wp2_with fail
    refine (sameInts_same _ _ _ _ _ _ _ _ hW0 hW).mono ?_
    rintro e w21' ⟨rfl, q_w21'⟩
    have u_w21' := below_of_quiet q_w21'
    clear q_w21'
    replace B_d := B_d.below u_w21'
    replace hG := hG.below u_w21'
    replace hO := hO.below u_w21'
    replace hA := hA.below u_w21'
    replace hB := hB.below u_w21'
    replace hW0 := hW0.below u_w21'
    replace hW := hW.below u_w21'
    have S_w21' := u_w21'.size
    have V_w21' : Below w.heap.size w w21' := V_w20'.trans (u_w21'.mono V_w20'.size)
    clear V_w20'
    clear u_w21'
    clear hW0
    clear hW
    go_upto_if 289 with fail
    go_cut [] (fun wx => Below w.heap.size w wx)

    case first => as_aux_lemma =>
      cases one
      · go_wp2_with fail
        go_meet
        case rel => exact V_w21'
      · obtain ⟨f1, f2, f3⟩ := HF.out rfl
        have e_d_0 : w21'.cell? ⟨w17'.heap.size, 0, none⟩ = some (.int .i64 P) := B_d.cell 0
        have e_d_1 : w21'.cell? ⟨w17'.heap.size, 1, none⟩ = some (.int .i64 i0) := B_d.cell 1
        have e_d_2 : w21'.cell? ⟨w17'.heap.size, 2, none⟩ = some (.int .i64 i1) := B_d.cell 2
        have e_d_3 : w21'.cell? ⟨w17'.heap.size, 3, none⟩ = some (.slice ga gn gc) := B_d.cell 3
        have e_d_4 : w21'.cell? ⟨w17'.heap.size, 4, none⟩ = some (.slice oa on oc) := B_d.cell 4
        go_wp2_with fail
        clear e_d_0 e_d_1 e_d_2 e_d_3 e_d_4
        refine (RunShared_any P i0 i1 _ _ _ G _ _ _ O key _ _ _ A _ _ _ B _ hG hO hA hB).mono ?_
        rintro e w22' ⟨ma, mn, mc, rfl, ow, u_w22'⟩
        replace B_d := B_d.below u_w22'
        replace hG := hG.below u_w22'
        replace hO := hO.below u_w22'
        replace hA := hA.below u_w22'
        replace hB := hB.below u_w22'
        have S_w22' := u_w22'.size
        have V_w22' : Below w.heap.size w w22' := V_w21'.trans (u_w22'.mono V_w21'.size)
        clear V_w21'
        clear u_w22'
        have hW0 := ow.ints
        clear ow

        rw [f1]
        have e_d_0 : w22'.cell? ⟨w17'.heap.size, 0, none⟩ = some (.int .i64 P) := B_d.cell 0
        have e_d_1 : w22'.cell? ⟨w17'.heap.size, 1, none⟩ = some (.int .i64 i0) := B_d.cell 1
        have e_d_2 : w22'.cell? ⟨w17'.heap.size, 2, none⟩ = some (.int .i64 i1) := B_d.cell 2
        have e_d_3 : w22'.cell? ⟨w17'.heap.size, 3, none⟩ = some (.slice ga gn gc) := B_d.cell 3
        have e_d_4 : w22'.cell? ⟨w17'.heap.size, 4, none⟩ = some (.slice oa on oc) := B_d.cell 4
        go_wp2_with fail
        clear e_d_0 e_d_1 e_d_2 e_d_3 e_d_4
        refine (RunWithFault_any P i0 i1 _ _ _ G _ _ _ O key _ _ _ A _ _ _ B pt 0 _ hG hO hA hB).mono ?_
        rintro e w23' ⟨na, nn, nc, rfl, ow, u_w23'⟩
        replace B_d := B_d.below u_w23'
        replace hG := hG.below u_w23'
        replace hO := hO.below u_w23'
        replace hA := hA.below u_w23'
        replace hB := hB.below u_w23'
        replace hW0 := hW0.below u_w23'
        have S_w23' := u_w23'.size
        have V_w23' : Below w.heap.size w w23' := V_w22'.trans (u_w23'.mono V_w22'.size)
        clear V_w22'
        clear u_w23'
        have hW := ow.ints
        clear ow

        rw [f3] at hW
        rw [f2]
        go_wp2_with fail
        refine (sameInts_same _ _ _ _ _ _ _ _ hW0 hW).mono ?_
        rintro e w24' ⟨rfl, q_w24'⟩
        have u_w24' := below_of_quiet q_w24'
        clear q_w24'
        replace B_d := B_d.below u_w24'
        replace hG := hG.below u_w24'
        replace hO := hO.below u_w24'
        replace hA := hA.below u_w24'
        replace hB := hB.below u_w24'
        replace hW0 := hW0.below u_w24'
        replace hW := hW.below u_w24'
        have S_w24' := u_w24'.size
        have V_w24' : Below w.heap.size w w24' := V_w23'.trans (u_w24'.mono V_w23'.size)
        clear V_w23'
        clear u_w24'
        go_wp2_with fail
        go_meet
        case rel => exact V_w24'

    case rest => as_aux_lemma =>
      clear hG
      clear hO
      clear hA
      clear hB
      clear HF V_w21' B_d


      go_wp2_with fail
      refine (DrawInputShares_any _ _ _ _ (Z1.out.belowAll hcut)).mono ?_
      rintro e w25' ⟨P, i0, i1, ga, gn, gc, G, oa, on, oc, O, key, aa, an, ac, A, ba, bn, bc, B, rfl, og, oo, oA, oB, u_w25'⟩
      have S_w25' := u_w25'.size
      have V_w25' : Below w.heap.size w w25' := hcut.trans (u_w25'.mono hcut.size)
      clear hcut
      clear u_w25'
      have hG := og.flat
      have hO := oo.ints
      have hA := oA.ints
      have hB := oB.ints
      clear og oo oA oB

      go_wp2_with fail
      refine Exists.elim (Blk.new_ w25' (b := w25'.heap.size) rfl 41 #[.int .i64 P, .int .i64 i0, .int .i64 i1, .slice ga gn gc, .slice oa on oc]) (fun w26' q => ?_)
      rw [q.1]; have B_h := q.2.1; have s_w26' := q.2.2.1; have u_w26' := q.2.2.2; clear q
      replace hG := hG.below u_w26'
      replace hO := hO.below u_w26'
      replace hA := hA.below u_w26'
      replace hB := hB.below u_w26'
      have S_w26' : w25'.heap.size + 1 ≤ w26'.heap.size := Nat.le_of_eq s_w26'.symm
      have V_w26' := V_w25'.trans (u_w26'.mono (V_w25').size)
      clear u_w26' s_w26' V_w25'
      refine (InputShares_any P i0 i1 _ _ _ G _ _ _ O key _ _ _ A _ _ _ B _ hG hO hA hB).mono ?_
      rintro e w27' ⟨xa, xn, xc, ya, yn, yc, rfl, ox, oy, dxy, u_w27'⟩
      replace B_h := B_h.below u_w27'
      replace hG := hG.below u_w27'
      replace hO := hO.below u_w27'
      replace hA := hA.below u_w27'
      replace hB := hB.below u_w27'
      have S_w27' := u_w27'.size
      have V_w27' : Below w.heap.size w w27' := V_w26'.trans (u_w27'.mono V_w26'.size)
      clear V_w26'
      clear u_w27'
      clear dxy
      have hX := ox.ints
      have hY := oy.ints
      clear ox oy

      have e_h_0 : w27'.cell? ⟨w25'.heap.size, 0, none⟩ = some (.int .i64 P) := B_h.cell 0
      have e_h_1 : w27'.cell? ⟨w25'.heap.size, 1, none⟩ = some (.int .i64 i0) := B_h.cell 1
      have e_h_2 : w27'.cell? ⟨w25'.heap.size, 2, none⟩ = some (.int .i64 i1) := B_h.cell 2
      have e_h_3 : w27'.cell? ⟨w25'.heap.size, 3, none⟩ = some (.slice ga gn gc) := B_h.cell 3
      have e_h_4 : w27'.cell? ⟨w25'.heap.size, 4, none⟩ = some (.slice oa on oc) := B_h.cell 4
      go_wp2_with fail
      clear e_h_0 e_h_1 e_h_2 e_h_3 e_h_4
      refine (spec_InputShares_any P i0 i1 _ _ _ G _ _ _ O key _ _ _ A _ _ _ B _ hG hO hA hB).mono ?_
      rintro e w28' ⟨ua, un, uc, va, vn, vc, rfl, ou, ov, duv, u_w28'⟩
      replace B_h := B_h.below u_w28'
      replace hG := hG.below u_w28'
      replace hO := hO.below u_w28'
      replace hA := hA.below u_w28'
      replace hB := hB.below u_w28'
      replace hX := hX.below u_w28'
      replace hY := hY.below u_w28'
      have S_w28' := u_w28'.size
      have V_w28' : Below w.heap.size w w28' := V_w27'.trans (u_w28'.mono V_w27'.size)
      clear V_w27'
      clear u_w28'
      clear duv
      have hU := ou.ints
      have hV := ov.ints
      clear ou ov

      generalize asB P i0 i1 gn G O key A B = b5 at *
      have e5 : ((b5 == b5) : Bool) = true := by simp
      go_wp2_with fail
      refine (sameInts_same _ _ _ _ _ _ _ _ hX hU).mono ?_
      rintro e w29' ⟨rfl, q_w29'⟩
      have u_w29' := below_of_quiet q_w29'
      clear q_w29'
      replace B_h := B_h.below u_w29'
      replace hG := hG.below u_w29'
      replace hO := hO.below u_w29'
      replace hA := hA.below u_w29'
      replace hB := hB.below u_w29'
      replace hX := hX.below u_w29'
      replace hY := hY.below u_w29'
      replace hU := hU.below u_w29'
      replace hV := hV.below u_w29'
      have S_w29' := u_w29'.size
      have V_w29' : Below w.heap.size w w29' := V_w28'.trans (u_w29'.mono V_w28'.size)
      clear V_w28'
      clear u_w29'
      go_wp2_with fail
      refine (sameInts_same _ _ _ _ _ _ _ _ hY hV).mono ?_
      rintro e w30' ⟨rfl, q_w30'⟩
      have u_w30' := below_of_quiet q_w30'
      clear q_w30'
      replace B_h := B_h.below u_w30'
      replace hG := hG.below u_w30'
      replace hO := hO.below u_w30'
      replace hA := hA.below u_w30'
      replace hB := hB.below u_w30'
      replace hX := hX.below u_w30'
      replace hY := hY.below u_w30'
      replace hU := hU.below u_w30'
      replace hV := hV.below u_w30'
      have S_w30' := u_w30'.size
      have V_w30' : Below w.heap.size w w30' := V_w29'.trans (u_w30'.mono V_w29'.size)
      clear V_w29'
      clear u_w30'
      go_wp2
      go_ret
      exact ⟨rfl, V_w30'⟩
end Go.Proofs.Ythpcmbdkboajcaa
