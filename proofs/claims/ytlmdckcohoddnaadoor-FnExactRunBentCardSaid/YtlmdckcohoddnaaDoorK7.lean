/- Lemmas and walks that the claim's proof rests on, part 7. -/
import Derived.Deep.DeepCutAuto
import Derived.Test.YtlmdckcohoddnaaDoorK2
import Derived.Test.YtlmdckcohoddnaaDoorK4
import Derived.Test.YtlmdckcohoddnaaDoorK5
import Derived.Test.YtlmdckcohoddnaaDoorK6
namespace Go.Proofs.YtlmdckcohoddnaaDoor
open Go.RowKit
theorem terms_1s (st : Int) (hst : st = 1) (a : Pl) (x : PlX) (w : World) (h : PlR w x a.shares a.keys a.heard) (hN : PlN a) (hs : 1 ≤ a.step) :
    Calls Tryd.prog 109 #[.agg #[.int .i64 a.P, .int .i64 a.party, .int .i64 a.input, .int .i64 a.mask, .int .i64 a.delta, .slice x.sa x.sn x.sc, .slice x.ka x.kn x.kc, .int .i64 a.step, .slice x.ha x.hn x.hc, .int .i64 a.status, .int .i64 a.out], .int .i64 st] w fun e w' => ∃ b c, e = .returned (.slice b 2 c) ∧ Flat 6 w' b 2 c (tm1 a) ∧ Below w.heap.size w w' := by subst hst; exact terms_1 a x w h hN hs
theorem terms_2s (st : Int) (hst : st = 2) (a : Pl) (x : PlX) (w : World) (h : PlR w x a.shares a.keys a.heard) (hN : PlN a) (hs : 2 ≤ a.step) :
    Calls Tryd.prog 109 #[.agg #[.int .i64 a.P, .int .i64 a.party, .int .i64 a.input, .int .i64 a.mask, .int .i64 a.delta, .slice x.sa x.sn x.sc, .slice x.ka x.kn x.kc, .int .i64 a.step, .slice x.ha x.hn x.hc, .int .i64 a.status, .int .i64 a.out], .int .i64 st] w fun e w' => ∃ b c, e = .returned (.slice b 1 c) ∧ Flat 6 w' b 1 c (tm2 a) ∧ Below w.heap.size w w' := by subst hst; exact terms_2 a x w h hN hs
set_option maxHeartbeats 8000000 in
set_option maxRecDepth 100000 in
theorem body_0 (a : Pl) (x : PlX) (w : World) (hN : PlN a) (hs : a.step = 0) :
    Calls Tryd.prog 73 #[.agg #[.int .i64 a.P, .int .i64 a.party, .int .i64 a.input, .int .i64 a.mask, .int .i64 a.delta, .slice x.sa x.sn x.sc, .slice x.ka x.kn x.kc, .int .i64 a.step, .slice x.ha x.hn x.hc, .int .i64 a.status, .int .i64 a.out]] w fun e w' => ∃ b c, e = .returned (.slice b 1 c) ∧ Own w' w.heap.size b 1 c [mkI a] ∧ Below w.heap.size w w' := by
  have hp1 := hN.p1
  have hp2 := hN.p2
  have hip := hN.ip
  have hmk := hN.mks
  have k0 : ((a.step == 0) : Bool) = true := by simpa using hs
  have HM : Hid ((a.input - a.mask) % a.P = mkI a) := Lib.hid rfl
  have t1 : IntKind.i64.wrap (a.input - a.mask) = a.input - a.mask := IntWalk.i64_in _ (by omega)
  clear hs hN
  go_enter Tryd.func73, Tryd.ntmps73
  go_wp2_with fail
  refine Exists.elim (Blk.new_ w (b := w.heap.size) rfl 31 #[.int .i64 a.P, .int .i64 a.party, .int .i64 a.input, .int .i64 a.mask, .int .i64 a.delta, .slice x.sa x.sn x.sc, .slice x.ka x.kn x.kc, .int .i64 a.step, .slice x.ha x.hn x.hc, .int .i64 a.status, .int .i64 a.out]) (fun w1' q => ?_)
  rw [q.1]; have B_a := q.2.1; have s_w1' := q.2.2.1; have u_w1' := q.2.2.2; clear q
  have S_w1' : w.heap.size + 1 ≤ w1'.heap.size := Nat.le_of_eq s_w1'.symm
  have V_w1' := (Below.refl w.heap.size w).trans (u_w1'.mono ((Below.refl w.heap.size w)).size)
  clear u_w1' s_w1'
  refine (mod_same _ _ _ (by omega) (by omega)).mono ?_; rintro e w' ⟨rfl, hw⟩; replace hw := hw.symm; subst hw
  rw [HM.out]
  go_wp2
  go_ret
  exact ⟨_, _, rfl, (Own.lit w1' _ [mkI a] (Nat.le_refl _) (by simp [maxLen])).lower V_w1'.size, V_w1'.alloc V_w1'.size _⟩
set_option maxHeartbeats 16000000 in
set_option maxRecDepth 100000 in
theorem body_1 (a : Pl) (x : PlX) (w : World) (h : PlR w x a.shares a.keys a.heard) (hN : PlN a) (hs : a.step = 1) :
    Calls Tryd.prog 73 #[.agg #[.int .i64 a.P, .int .i64 a.party, .int .i64 a.input, .int .i64 a.mask, .int .i64 a.delta, .slice x.sa x.sn x.sc, .slice x.ka x.kn x.kc, .int .i64 a.step, .slice x.ha x.hn x.hc, .int .i64 a.status, .int .i64 a.out]] w fun e w' => ∃ b c, e = .returned (.slice b 4 c) ∧ Own w' w.heap.size b 4 c [seV0 a, seT0 a, seV1 a, seT1 a] ∧ Below w.heap.size w w' := by
  have hp1 := hN.p1
  have hp2 := hN.p2
  have q0 := f0_rng hN (by omega)
  have q1 := f1_rng hN (by omega)
  have rd := dI_rng hN
  have re := eI_rng hN
  have m1 : 0 ≤ dI a * eI a := Int.mul_nonneg rd.1 re.1
  have m2 : dI a * eI a ≤ 1000 * 1000 := Int.mul_le_mul (by omega) (by omega) re.1 (by omega)
  have k0 : ((a.step == 0) : Bool) = false := by simp; omega
  have CT := Lib.hid (fun (W : World) (h2 : PlR W x a.shares a.keys a.heard) => terms_1s a.step hs a x W h2 hN (by omega))
  have C0 := Lib.hid (fun (W : World) (h2 : PlR W x a.shares a.keys a.heard) => (show Calls Tryd.prog 110 #[.agg #[.int .i64 a.P, .int .i64 a.party, .int .i64 a.input, .int .i64 a.mask, .int .i64 a.delta, .slice x.sa x.sn x.sc, .slice x.ka x.kn x.kc, .int .i64 a.step, .slice x.ha x.hn x.hc, .int .i64 a.status, .int .i64 a.out], .agg #[.int .i64 (1), .int .i64 (0), .int .i64 (-1), .int .i64 (0), .int .i64 (0), .int .i64 (f0 a)]] W fun e w' => e = .returned (.agg #[.int .i64 (seV0 a), .int .i64 (seT0 a)]) ∧ Below W.heap.size W w' from own_any a x (1) (0) (-1) (0) (0) (f0 a) W h2 hN (fun i _ => by unfold w5; split <;> (try split) <;> (try split) <;> (try split) <;> omega) (by omega)))
  have C1 := Lib.hid (fun (W : World) (h2 : PlR W x a.shares a.keys a.heard) => (show Calls Tryd.prog 110 #[.agg #[.int .i64 a.P, .int .i64 a.party, .int .i64 a.input, .int .i64 a.mask, .int .i64 a.delta, .slice x.sa x.sn x.sc, .slice x.ka x.kn x.kc, .int .i64 a.step, .slice x.ha x.hn x.hc, .int .i64 a.status, .int .i64 a.out], .agg #[.int .i64 (0), .int .i64 (1), .int .i64 (0), .int .i64 (-1), .int .i64 (0), .int .i64 (f1 a)]] W fun e w' => e = .returned (.agg #[.int .i64 (seV1 a), .int .i64 (seT1 a)]) ∧ Below W.heap.size W w' from own_any a x (0) (1) (0) (-1) (0) (f1 a) W h2 hN (fun i _ => by unfold w5; split <;> (try split) <;> (try split) <;> (try split) <;> omega) (by omega)))
  have LH := Lib.hid h
  clear h hN hs q0 q1 rd re m1 m2
  go_enter Tryd.func73, Tryd.ntmps73
  go_wp2_with fail
  refine Exists.elim (Blk.new_ w (b := w.heap.size) rfl 31 #[.int .i64 a.P, .int .i64 a.party, .int .i64 a.input, .int .i64 a.mask, .int .i64 a.delta, .slice x.sa x.sn x.sc, .slice x.ka x.kn x.kc, .int .i64 a.step, .slice x.ha x.hn x.hc, .int .i64 a.status, .int .i64 a.out]) (fun w1_a0' q => ?_)
  rw [q.1]; have B_a := q.2.1; have s_w1_a0' := q.2.2.1; have u_w1_a0' := q.2.2.2; clear q
  refine Exists.elim (Blk.new_ w1_a0' (b := w.heap.size + 1) s_w1_a0' 3 #[]) (fun w1' q => ?_)
  rw [q.1]; have B_z := q.2.1; have s_w1' := q.2.2.1; have u_w1' := q.2.2.2; clear q
  replace B_a := (B_a.below u_w1')
  have U := (u_w1_a0'.trans (u_w1'.mono u_w1_a0'.size))
  have S_w1' : w.heap.size + 2 ≤ w1'.heap.size := Nat.le_of_eq s_w1'.symm
  have V_w1' := (Below.refl w.heap.size w).trans (U.mono ((Below.refl w.heap.size w)).size)
  clear u_w1_a0' u_w1' s_w1_a0' s_w1' U
  clear B_z
  have e_a_0 := B_a.a11_0
  have e_a_1 := B_a.a11_1
  have e_a_2 := B_a.a11_2
  have e_a_3 := B_a.a11_3
  have e_a_4 := B_a.a11_4
  have e_a_5 := B_a.a11_5
  have e_a_6 := B_a.a11_6
  have e_a_7 := B_a.a11_7
  have e_a_8 := B_a.a11_8
  have e_a_9 := B_a.a11_9
  have e_a_10 := B_a.a11_10
  go_wp2_with fail
  clear e_a_0 e_a_1 e_a_2 e_a_3 e_a_4 e_a_5 e_a_6 e_a_7 e_a_8 e_a_9 e_a_10
  refine (CT.out _ (LH.out.below V_w1')).mono ?_
  rintro e w2' ⟨b, c, rfl, hF, u_w2'⟩
  replace B_a := B_a.below u_w2'
  have S_w2' := u_w2'.size
  have V_w2' : Below w.heap.size w w2' := V_w1'.trans (u_w2'.mono V_w1'.size)
  clear V_w1'
  clear u_w2'
  go_wp2
  go_loopw [25, 3] (fun v u wr => ∃ k : Nat, k ≤ 2 ∧ v = .int .i64 k ∧ Below w2'.heap.size w2' wr ∧ ∃ c5 d5, u = .slice c5 (2 * k) d5 ∧ Own wr w2'.heap.size c5 (2 * k) d5 ([seV0 a, seT0 a, seV1 a, seT1 a].take (2 * k))) (fun v _ _ => 2 - (intOf v).toNat)
  case atStart => exact ⟨0, by omega, rfl, Below.refl _ _, _, _, rfl, Own.nil0 _ _ _⟩
  case round =>
    obtain ⟨k, hk, rfl, hbel, c5, d5, rfl, own⟩ := hrel
    have VB := V_w2'
    have SB := V_w2'.size
    have B_a := B_a.below hbel
    have V_wr := V_w2'.trans (hbel.mono V_w2'.size)
    have S_wr := hbel.size
    by_cases hlt : k < 2
    · obtain ⟨g, o, rfl, hc⟩ := (hF.below hbel).at (by omega)
      have hcase : k = 0 ∨ k = 1 := by omega
      rcases hcase with rfl | rfl
      · have tc0 : wr.cell? ⟨g, o, none⟩ = some (.int .i64 (1)) := hc 0 (by omega)
        have tc1 : wr.cell? ⟨g, o + 1, none⟩ = some (.int .i64 (0)) := hc 1 (by omega)
        have tc2 : wr.cell? ⟨g, o + 2, none⟩ = some (.int .i64 (-1)) := hc 2 (by omega)
        have tc3 : wr.cell? ⟨g, o + 3, none⟩ = some (.int .i64 (0)) := hc 3 (by omega)
        have tc4 : wr.cell? ⟨g, o + 4, none⟩ = some (.int .i64 (0)) := hc 4 (by omega)
        have tc5 : wr.cell? ⟨g, o + 5, none⟩ = some (.int .i64 (f0 a)) := hc 5 (by omega)
        have own' : Own wr w2'.heap.size c5 0 d5 [] := own
        clear own hc
        rw [show ((0 : Nat) : Int) = 0 from rfl]
        have e_a_0 := B_a.a11_0
        have e_a_1 := B_a.a11_1
        have e_a_2 := B_a.a11_2
        have e_a_3 := B_a.a11_3
        have e_a_4 := B_a.a11_4
        have e_a_5 := B_a.a11_5
        have e_a_6 := B_a.a11_6
        have e_a_7 := B_a.a11_7
        have e_a_8 := B_a.a11_8
        have e_a_9 := B_a.a11_9
        have e_a_10 := B_a.a11_10
        have V9 : Below wr.heap.size wr (wr.alloc (.cells #[.int .i64 (1), .int .i64 (0), .int .i64 (-1), .int .i64 (0), .int .i64 (0), .int .i64 (f0 a)] 123)) := (Below.refl _ _).alloc (Nat.le_refl _) _
        have p0 := keepC V9 e_a_0
        have p1 := keepC V9 e_a_1
        have p2 := keepC V9 e_a_2
        have p3 := keepC V9 e_a_3
        have p4 := keepC V9 e_a_4
        have p5 := keepC V9 e_a_5
        have p6 := keepC V9 e_a_6
        have p7 := keepC V9 e_a_7
        have p8 := keepC V9 e_a_8
        have p9 := keepC V9 e_a_9
        have p10 := keepC V9 e_a_10
        go_wp2_with fail
        refine (C0.out _ ((LH.out.below V_wr).below V9)).mono ?_; rintro e wy ⟨rfl, u⟩
        have u9 := V9.trans (u.mono V9.size)
        have own2 := own'.below u9
        have V10 := V_wr.trans (u9.mono V_wr.size)
        have hb9 := hbel.trans (u9.mono hbel.size)
        have VX := V10.alloc V10.size (.cells #[.int .i64 (seV0 a), .int .i64 (seT0 a)] 81)
        have hbX := hb9.alloc hb9.size (.cells #[.int .i64 (seV0 a), .int .i64 (seT0 a)] 81)
        have own3 := own2.alloc (.cells #[.int .i64 (seV0 a), .int .i64 (seT0 a)] 81)
        clear e_a_0 e_a_1 e_a_2 e_a_3 e_a_4 e_a_5 e_a_6 e_a_7 e_a_8 e_a_9 e_a_10
        clear own' own2 V10 hb9 u9 u V9 tc0 tc1 tc2 tc3 tc4 tc5 p0 p1 p2 p3 p4 p5 p6 p7 p8 p9 p10
        have SX := VX.size
        have SY := hbX.size
        have LIT : Ints ((wy.alloc (.cells #[.int .i64 (seV0 a), .int .i64 (seT0 a)] 81)).alloc (.cells #[.int .i64 (seV0 a), .int .i64 (seT0 a)] 3)) (some ⟨wy.heap.size + 1, 0, none⟩) 2 2 [seV0 a, seT0 a] := by simpa using Ints.lit2 (wy.alloc (.cells #[.int .i64 (seV0 a), .int .i64 (seT0 a)] 81)) (seV0 a) (seT0 a) 3
        have TR : Hid (([seV0 a, seT0 a, seV1 a, seT1 a] : List Int).take (2 * (0 + 1)) = [] ++ [seV0 a, seT0 a]) := Lib.hid rfl
        go_wp2_with (at_builtin; refine wpList_appI _ rfl _ _ rfl w2'.heap.size c5 0 d5 [] rfl (own3.alloc _) _ 2 2 [seV0 a, seT0 a] rfl LIT (by omega) (by simp at *; omega) ?_)
        intro a6 c6 w6 o6 u6 g6
        have hb7 := (hbX.alloc hbX.size _).trans u6
        clear u6 g6 LIT own3 hbX VX SX SY
        go_wp2
        go_roundw
        case rel => exact ⟨0 + 1, by omega, by go_num, hb7, a6, c6, rfl, by rw [TR.out]; exact o6⟩
        case measure => simp [intOf]
      · have tc0 : wr.cell? ⟨g, o + 6, none⟩ = some (.int .i64 (0)) := hc 6 (by omega)
        have tc1 : wr.cell? ⟨g, o + 7, none⟩ = some (.int .i64 (1)) := hc 7 (by omega)
        have tc2 : wr.cell? ⟨g, o + 8, none⟩ = some (.int .i64 (0)) := hc 8 (by omega)
        have tc3 : wr.cell? ⟨g, o + 9, none⟩ = some (.int .i64 (-1)) := hc 9 (by omega)
        have tc4 : wr.cell? ⟨g, o + 10, none⟩ = some (.int .i64 (0)) := hc 10 (by omega)
        have tc5 : wr.cell? ⟨g, o + 11, none⟩ = some (.int .i64 (f1 a)) := hc 11 (by omega)
        have own' : Own wr w2'.heap.size c5 2 d5 [seV0 a, seT0 a] := own
        clear own hc
        rw [show ((1 : Nat) : Int) = 1 from rfl]
        have e_a_0 := B_a.a11_0
        have e_a_1 := B_a.a11_1
        have e_a_2 := B_a.a11_2
        have e_a_3 := B_a.a11_3
        have e_a_4 := B_a.a11_4
        have e_a_5 := B_a.a11_5
        have e_a_6 := B_a.a11_6
        have e_a_7 := B_a.a11_7
        have e_a_8 := B_a.a11_8
        have e_a_9 := B_a.a11_9
        have e_a_10 := B_a.a11_10
        have V9 : Below wr.heap.size wr (wr.alloc (.cells #[.int .i64 (0), .int .i64 (1), .int .i64 (0), .int .i64 (-1), .int .i64 (0), .int .i64 (f1 a)] 123)) := (Below.refl _ _).alloc (Nat.le_refl _) _
        have p0 := keepC V9 e_a_0
        have p1 := keepC V9 e_a_1
        have p2 := keepC V9 e_a_2
        have p3 := keepC V9 e_a_3
        have p4 := keepC V9 e_a_4
        have p5 := keepC V9 e_a_5
        have p6 := keepC V9 e_a_6
        have p7 := keepC V9 e_a_7
        have p8 := keepC V9 e_a_8
        have p9 := keepC V9 e_a_9
        have p10 := keepC V9 e_a_10
        go_wp2_with fail
        refine (C1.out _ ((LH.out.below V_wr).below V9)).mono ?_; rintro e wy ⟨rfl, u⟩
        have u9 := V9.trans (u.mono V9.size)
        have own2 := own'.below u9
        have V10 := V_wr.trans (u9.mono V_wr.size)
        have hb9 := hbel.trans (u9.mono hbel.size)
        have VX := V10.alloc V10.size (.cells #[.int .i64 (seV1 a), .int .i64 (seT1 a)] 81)
        have hbX := hb9.alloc hb9.size (.cells #[.int .i64 (seV1 a), .int .i64 (seT1 a)] 81)
        have own3 := own2.alloc (.cells #[.int .i64 (seV1 a), .int .i64 (seT1 a)] 81)
        clear e_a_0 e_a_1 e_a_2 e_a_3 e_a_4 e_a_5 e_a_6 e_a_7 e_a_8 e_a_9 e_a_10
        clear own' own2 V10 hb9 u9 u V9 tc0 tc1 tc2 tc3 tc4 tc5 p0 p1 p2 p3 p4 p5 p6 p7 p8 p9 p10
        have SX := VX.size
        have SY := hbX.size
        have LIT : Ints ((wy.alloc (.cells #[.int .i64 (seV1 a), .int .i64 (seT1 a)] 81)).alloc (.cells #[.int .i64 (seV1 a), .int .i64 (seT1 a)] 3)) (some ⟨wy.heap.size + 1, 0, none⟩) 2 2 [seV1 a, seT1 a] := by simpa using Ints.lit2 (wy.alloc (.cells #[.int .i64 (seV1 a), .int .i64 (seT1 a)] 81)) (seV1 a) (seT1 a) 3
        have TR : Hid (([seV0 a, seT0 a, seV1 a, seT1 a] : List Int).take (2 * (1 + 1)) = [seV0 a, seT0 a] ++ [seV1 a, seT1 a]) := Lib.hid rfl
        go_wp2_with (at_builtin; refine wpList_appI _ rfl _ _ rfl w2'.heap.size c5 2 d5 [seV0 a, seT0 a] rfl (own3.alloc _) _ 2 2 [seV1 a, seT1 a] rfl LIT (by omega) (by simp at *; omega) ?_)
        intro a6 c6 w6 o6 u6 g6
        have hb7 := (hbX.alloc hbX.size _).trans u6
        clear u6 g6 LIT own3 hbX VX SX SY
        go_wp2
        go_roundw
        case rel => exact ⟨1 + 1, by omega, by go_num, hb7, a6, c6, rfl, by rw [TR.out]; exact o6⟩
        case measure => simp [intOf]
    · obtain rfl : k = 2 := by omega
      have own' : Own wr w2'.heap.size c5 4 d5 [seV0 a, seT0 a, seV1 a, seT1 a] := own
      go_wp2
      go_ret
      exact ⟨_, _, rfl, own'.lower SB, VB.trans (hbel.mono SB)⟩
set_option maxHeartbeats 16000000 in
set_option maxRecDepth 100000 in
theorem body_2 (a : Pl) (x : PlX) (w : World) (h : PlR w x a.shares a.keys a.heard) (hN : PlN a) (hs : a.step = 2) :
    Calls Tryd.prog 73 #[.agg #[.int .i64 a.P, .int .i64 a.party, .int .i64 a.input, .int .i64 a.mask, .int .i64 a.delta, .slice x.sa x.sn x.sc, .slice x.ka x.kn x.kc, .int .i64 a.step, .slice x.ha x.hn x.hc, .int .i64 a.status, .int .i64 a.out]] w fun e w' => ∃ b c, e = .returned (.slice b 2 c) ∧ Own w' w.heap.size b 2 c [thV a, thT a] ∧ Below w.heap.size w w' := by
  have hp1 := hN.p1
  have hp2 := hN.p2
  have q0 := f0_rng hN (by omega)
  have q1 := f1_rng hN (by omega)
  have rd := dI_rng hN
  have re := eI_rng hN
  have m1 : 0 ≤ dI a * eI a := Int.mul_nonneg rd.1 re.1
  have m2 : dI a * eI a ≤ 1000 * 1000 := Int.mul_le_mul (by omega) (by omega) re.1 (by omega)
  have k0 : ((a.step == 0) : Bool) = false := by simp; omega
  have CT := Lib.hid (fun (W : World) (h2 : PlR W x a.shares a.keys a.heard) => terms_2s a.step hs a x W h2 hN (by omega))
  have C0 := Lib.hid (fun (W : World) (h2 : PlR W x a.shares a.keys a.heard) => (show Calls Tryd.prog 110 #[.agg #[.int .i64 a.P, .int .i64 a.party, .int .i64 a.input, .int .i64 a.mask, .int .i64 a.delta, .slice x.sa x.sn x.sc, .slice x.ka x.kn x.kc, .int .i64 a.step, .slice x.ha x.hn x.hc, .int .i64 a.status, .int .i64 a.out], .agg #[.int .i64 (0), .int .i64 (0), .int .i64 (eI a), .int .i64 (dI a), .int .i64 (1), .int .i64 (dI a * eI a)]] W fun e w' => e = .returned (.agg #[.int .i64 (thV a), .int .i64 (thT a)]) ∧ Below W.heap.size W w' from own_any a x (0) (0) (eI a) (dI a) (1) (dI a * eI a) W h2 hN (fun i _ => by unfold w5; split <;> (try split) <;> (try split) <;> (try split) <;> omega) (by omega)))
  have LH := Lib.hid h
  clear h hN hs q0 q1 rd re m1 m2
  go_enter Tryd.func73, Tryd.ntmps73
  go_wp2_with fail
  refine Exists.elim (Blk.new_ w (b := w.heap.size) rfl 31 #[.int .i64 a.P, .int .i64 a.party, .int .i64 a.input, .int .i64 a.mask, .int .i64 a.delta, .slice x.sa x.sn x.sc, .slice x.ka x.kn x.kc, .int .i64 a.step, .slice x.ha x.hn x.hc, .int .i64 a.status, .int .i64 a.out]) (fun w1_a0' q => ?_)
  rw [q.1]; have B_a := q.2.1; have s_w1_a0' := q.2.2.1; have u_w1_a0' := q.2.2.2; clear q
  refine Exists.elim (Blk.new_ w1_a0' (b := w.heap.size + 1) s_w1_a0' 3 #[]) (fun w1' q => ?_)
  rw [q.1]; have B_z := q.2.1; have s_w1' := q.2.2.1; have u_w1' := q.2.2.2; clear q
  replace B_a := (B_a.below u_w1')
  have U := (u_w1_a0'.trans (u_w1'.mono u_w1_a0'.size))
  have S_w1' : w.heap.size + 2 ≤ w1'.heap.size := Nat.le_of_eq s_w1'.symm
  have V_w1' := (Below.refl w.heap.size w).trans (U.mono ((Below.refl w.heap.size w)).size)
  clear u_w1_a0' u_w1' s_w1_a0' s_w1' U
  clear B_z
  have e_a_0 := B_a.a11_0
  have e_a_1 := B_a.a11_1
  have e_a_2 := B_a.a11_2
  have e_a_3 := B_a.a11_3
  have e_a_4 := B_a.a11_4
  have e_a_5 := B_a.a11_5
  have e_a_6 := B_a.a11_6
  have e_a_7 := B_a.a11_7
  have e_a_8 := B_a.a11_8
  have e_a_9 := B_a.a11_9
  have e_a_10 := B_a.a11_10
  go_wp2_with fail
  clear e_a_0 e_a_1 e_a_2 e_a_3 e_a_4 e_a_5 e_a_6 e_a_7 e_a_8 e_a_9 e_a_10
  refine (CT.out _ (LH.out.below V_w1')).mono ?_
  rintro e w2' ⟨b, c, rfl, hF, u_w2'⟩
  replace B_a := B_a.below u_w2'
  have S_w2' := u_w2'.size
  have V_w2' : Below w.heap.size w w2' := V_w1'.trans (u_w2'.mono V_w1'.size)
  clear V_w1'
  clear u_w2'
  go_wp2
  go_loopw [25, 3] (fun v u wr => ∃ k : Nat, k ≤ 1 ∧ v = .int .i64 k ∧ Below w2'.heap.size w2' wr ∧ ∃ c5 d5, u = .slice c5 (2 * k) d5 ∧ Own wr w2'.heap.size c5 (2 * k) d5 ([thV a, thT a].take (2 * k))) (fun v _ _ => 1 - (intOf v).toNat)
  case atStart => exact ⟨0, by omega, rfl, Below.refl _ _, _, _, rfl, Own.nil0 _ _ _⟩
  case round =>
    obtain ⟨k, hk, rfl, hbel, c5, d5, rfl, own⟩ := hrel
    have VB := V_w2'
    have SB := V_w2'.size
    have B_a := B_a.below hbel
    have V_wr := V_w2'.trans (hbel.mono V_w2'.size)
    have S_wr := hbel.size
    by_cases hlt : k < 1
    · obtain ⟨g, o, rfl, hc⟩ := (hF.below hbel).at (by omega)
      obtain rfl : k = 0 := by omega
      have tc0 : wr.cell? ⟨g, o, none⟩ = some (.int .i64 (0)) := hc 0 (by omega)
      have tc1 : wr.cell? ⟨g, o + 1, none⟩ = some (.int .i64 (0)) := hc 1 (by omega)
      have tc2 : wr.cell? ⟨g, o + 2, none⟩ = some (.int .i64 (eI a)) := hc 2 (by omega)
      have tc3 : wr.cell? ⟨g, o + 3, none⟩ = some (.int .i64 (dI a)) := hc 3 (by omega)
      have tc4 : wr.cell? ⟨g, o + 4, none⟩ = some (.int .i64 (1)) := hc 4 (by omega)
      have tc5 : wr.cell? ⟨g, o + 5, none⟩ = some (.int .i64 (dI a * eI a)) := hc 5 (by omega)
      have own' : Own wr w2'.heap.size c5 0 d5 [] := own
      clear own hc
      rw [show ((0 : Nat) : Int) = 0 from rfl]
      have e_a_0 := B_a.a11_0
      have e_a_1 := B_a.a11_1
      have e_a_2 := B_a.a11_2
      have e_a_3 := B_a.a11_3
      have e_a_4 := B_a.a11_4
      have e_a_5 := B_a.a11_5
      have e_a_6 := B_a.a11_6
      have e_a_7 := B_a.a11_7
      have e_a_8 := B_a.a11_8
      have e_a_9 := B_a.a11_9
      have e_a_10 := B_a.a11_10
      have V9 : Below wr.heap.size wr (wr.alloc (.cells #[.int .i64 (0), .int .i64 (0), .int .i64 (eI a), .int .i64 (dI a), .int .i64 (1), .int .i64 (dI a * eI a)] 123)) := (Below.refl _ _).alloc (Nat.le_refl _) _
      have p0 := keepC V9 e_a_0
      have p1 := keepC V9 e_a_1
      have p2 := keepC V9 e_a_2
      have p3 := keepC V9 e_a_3
      have p4 := keepC V9 e_a_4
      have p5 := keepC V9 e_a_5
      have p6 := keepC V9 e_a_6
      have p7 := keepC V9 e_a_7
      have p8 := keepC V9 e_a_8
      have p9 := keepC V9 e_a_9
      have p10 := keepC V9 e_a_10
      go_wp2_with fail
      refine (C0.out _ ((LH.out.below V_wr).below V9)).mono ?_; rintro e wy ⟨rfl, u⟩
      have u9 := V9.trans (u.mono V9.size)
      have own2 := own'.below u9
      have V10 := V_wr.trans (u9.mono V_wr.size)
      have hb9 := hbel.trans (u9.mono hbel.size)
      have VX := V10.alloc V10.size (.cells #[.int .i64 (thV a), .int .i64 (thT a)] 81)
      have hbX := hb9.alloc hb9.size (.cells #[.int .i64 (thV a), .int .i64 (thT a)] 81)
      have own3 := own2.alloc (.cells #[.int .i64 (thV a), .int .i64 (thT a)] 81)
      clear e_a_0 e_a_1 e_a_2 e_a_3 e_a_4 e_a_5 e_a_6 e_a_7 e_a_8 e_a_9 e_a_10
      clear own' own2 V10 hb9 u9 u V9 tc0 tc1 tc2 tc3 tc4 tc5 p0 p1 p2 p3 p4 p5 p6 p7 p8 p9 p10
      have SX := VX.size
      have SY := hbX.size
      have LIT : Ints ((wy.alloc (.cells #[.int .i64 (thV a), .int .i64 (thT a)] 81)).alloc (.cells #[.int .i64 (thV a), .int .i64 (thT a)] 3)) (some ⟨wy.heap.size + 1, 0, none⟩) 2 2 [thV a, thT a] := by simpa using Ints.lit2 (wy.alloc (.cells #[.int .i64 (thV a), .int .i64 (thT a)] 81)) (thV a) (thT a) 3
      have TR : Hid (([thV a, thT a] : List Int).take (2 * (0 + 1)) = [] ++ [thV a, thT a]) := Lib.hid rfl
      go_wp2_with (at_builtin; refine wpList_appI _ rfl _ _ rfl w2'.heap.size c5 0 d5 [] rfl (own3.alloc _) _ 2 2 [thV a, thT a] rfl LIT (by omega) (by simp at *; omega) ?_)
      intro a6 c6 w6 o6 u6 g6
      have hb7 := (hbX.alloc hbX.size _).trans u6
      clear u6 g6 LIT own3 hbX VX SX SY
      go_wp2
      go_roundw
      case rel => exact ⟨0 + 1, by omega, by go_num, hb7, a6, c6, rfl, by rw [TR.out]; exact o6⟩
      case measure => simp [intOf]
    · obtain rfl : k = 1 := by omega
      have own' : Own wr w2'.heap.size c5 2 d5 [thV a, thT a] := own
      go_wp2
      go_ret
      exact ⟨_, _, rfl, own'.lower SB, VB.trans (hbel.mono SB)⟩
end Go.Proofs.YtlmdckcohoddnaaDoor
namespace Go.Proofs.YtlmdckcohoddnaaDoor
open Go.RowKit
section
variable {T E sz bytes : Nat} {z : Value} {w : World} {o : Oper} {act : Act} {Q : Exit → Act → World → Prop}
theorem wp_appC {K : Act → World → Prop} (hu : Tryd.prog.underlying T = some (.slice E)) (hinfo : (Tryd.prog.info? E).map (fun i => (i.zero, i.size, i.bytes)) = some (some z, sz, bytes)) (hzs : z.cells.size = sz) (hsz : 0 < sz)
    (s x : Operand) (ho : o.op = .call { callee := .builtin .append, args := #[s, x], argTypes := #[T, T] })
    (b : Nat) (a : Option Addr) (n c : Nat) (xs : List Value) (hs : act.eval s = .slice a n c) (hown : OwnC w b a n c E sz xs)
    (a' : Option Addr) (m c' : Nat) (xs' : List Value) (hx : act.eval x = .slice a' m c') (hrow : RowC w a' m c' sz xs') (h1 : ∀ u ∈ xs', u.oneCell' = true)
    (hlen : (n + m) * bytes ≤ 140737488355328) (hmax : n + m ≤ maxLen) (hbase : b ≤ w.heap.size)
    (h : ∀ a2 c2 w', OwnC w' b a2 (n + m) c2 E sz (xs ++ xs') → Below b w w' → w.grownBy w' (rowOf a c) → Moved w a c a2 c2 → K (act.put o.dst (.slice a2 (n + m) c2)) w') : o.wp Tryd.prog act w K Q := by
  obtain ⟨i0, hi, hz0, hz1, hz2⟩ := info_parts hinfo
  obtain ⟨a2, c2, w', hrun, h1, h2, _, h9⟩ := run_app2 w T o.type b E i0 z sz bytes hu hi hz0 hz1 hz2 hzs hsz a n c _ hown a' m c' _ hrow h1 hlen hmax hbase
  unfold Oper.wp
  simp [execOp, ho, resolve, invoke, builtin, hs, hx, hrun, Result.andThen]
  exact h a2 c2 w' h1 (below_grownBy h2 hbase (fun x hc hx => (hown.range x hc hx).1)) h2 h9
theorem wpList_appC {ops : Array Oper} {rest : List Oper} (hu : Tryd.prog.underlying T = some (.slice E)) (hinfo : (Tryd.prog.info? E).map (fun i => (i.zero, i.size, i.bytes)) = some (some z, sz, bytes)) (hzs : z.cells.size = sz) (hsz : 0 < sz) (hgd : o.guard = none)
    (s x : Operand) (ho : o.op = .call { callee := .builtin .append, args := #[s, x], argTypes := #[T, T] })
    (b : Nat) (a : Option Addr) (n c : Nat) (xs : List Value) (hs : act.eval s = .slice a n c) (hown : OwnC w b a n c E sz xs)
    (a' : Option Addr) (m c' : Nat) (xs' : List Value) (hx : act.eval x = .slice a' m c') (hrow : RowC w a' m c' sz xs') (h1 : ∀ u ∈ xs', u.oneCell' = true)
    (hlen : (n + m) * bytes ≤ 140737488355328) (hmax : n + m ≤ maxLen) (hbase : b ≤ w.heap.size)
    (h : ∀ a2 c2 w', OwnC w' b a2 (n + m) c2 E sz (xs ++ xs') → Below b w w' → w.grownBy w' (rowOf a c) → Moved w a c a2 c2 → wpList Tryd.prog ops Q rest (act.put o.dst (.slice a2 (n + m) c2)) w') : wpList Tryd.prog ops Q (o :: rest) act w :=
  wpList_plain hgd fun _ hK => wp_appC hu hinfo hzs hsz s x ho b a n c xs hs hown a' m c' xs' hx hrow h1 hlen hmax hbase fun a2 c2 w' h1 h2 h3 h5 => hK _ _ (h a2 c2 w' h1 h2 h3 h5)
theorem step_appC {ops : Array Oper} {K : Act → World → Prop} {P2 : Prop} (hu : Tryd.prog.underlying T = some (.slice E)) (hinfo : (Tryd.prog.info? E).map (fun i => (i.zero, i.size, i.bytes)) = some (some z, sz, bytes)) (hzs : z.cells.size = sz) (hsz : 0 < sz) (hgd : o.guard = none)
    (s x : Operand) (ho : o.op = .call { callee := .builtin .append, args := #[s, x], argTypes := #[T, T] })
    (b : Nat) (a : Option Addr) (n c : Nat) (xs : List Value) (hs : act.eval s = .slice a n c) (hown : OwnC w b a n c E sz xs)
    (a' : Option Addr) (m c' : Nat) (xs' : List Value) (hx : act.eval x = .slice a' m c') (hrow : RowC w a' m c' sz xs') (h1 : ∀ u ∈ xs', u.oneCell' = true)
    (hlen : (n + m) * bytes ≤ 140737488355328) (hmax : n + m ≤ maxLen) (hbase : b ≤ w.heap.size)
    (h : ∀ a2 c2 w', OwnC w' b a2 (n + m) c2 E sz (xs ++ xs') → Below b w w' → w.grownBy w' (rowOf a c) → Moved w a c a2 c2 → K (act.put o.dst (.slice a2 (n + m) c2)) w') :
    if Region.wanted o (yielded ops act.tmps) = true then Oper.wp Tryd.prog o act w K Q else P2 := by
  rw [if_pos (by simp [Region.wanted, hgd])]
  exact wp_appC hu hinfo hzs hsz s x ho b a n c xs hs hown a' m c' xs' hx hrow h1 hlen hmax hbase h
end
theorem one_ints (l : List Int) : ∀ u ∈ l.map (Value.int .i64), u.oneCell' = true := fun u hu => by
  simp only [List.mem_map] at hu
  obtain ⟨y, _, rfl⟩ := hu
  rfl
theorem one_rows (rs : List RowD) : ∀ u ∈ rs.map rowV, u.oneCell' = true := fun u hu => by
  simp only [List.mem_map] at hu
  obtain ⟨y, _, rfl⟩ := hu
  rfl
section
variable {w : World} {o : Oper} {act : Act} {Q : Exit → Act → World → Prop}
theorem wpList_appT {ops : Array Oper} {rest : List Oper} (hgd : o.guard = none)
    (s x : Operand) (ho : o.op = .call { callee := .builtin .append, args := #[s, x], argTypes := #[29, 29] })
    (b : Nat) (a : Option Addr) (n c : Nat) (xs : List Value) (hs : act.eval s = .slice a n c) (hown : OwnC w b a n c 81 2 xs)
    (a' : Option Addr) (m c' : Nat) (xs' : List Value) (hx : act.eval x = .slice a' m c') (hrow : RowC w a' m c' 2 xs') (h1 : ∀ u ∈ xs', u.oneCell' = true)
    (hlen : n + m ≤ 1000000) (hbase : b ≤ w.heap.size)
    (h : ∀ a2 c2 w', OwnC w' b a2 (n + m) c2 81 2 (xs ++ xs') → Below b w w' → w.grownBy w' (rowOf a c) → Moved w a c a2 c2 → wpList Tryd.prog ops Q rest (act.put o.dst (.slice a2 (n + m) c2)) w') : wpList Tryd.prog ops Q (o :: rest) act w :=
  wpList_appC Tryd.underlying29 info_Tagged rfl (by decide) hgd s x ho b a n c xs hs hown a' m c' xs' hx hrow h1 (by omega) (by unfold maxLen; omega) hbase h
theorem step_appT {ops : Array Oper} {K : Act → World → Prop} {P2 : Prop} (hgd : o.guard = none)
    (s x : Operand) (ho : o.op = .call { callee := .builtin .append, args := #[s, x], argTypes := #[29, 29] })
    (b : Nat) (a : Option Addr) (n c : Nat) (xs : List Value) (hs : act.eval s = .slice a n c) (hown : OwnC w b a n c 81 2 xs)
    (a' : Option Addr) (m c' : Nat) (xs' : List Value) (hx : act.eval x = .slice a' m c') (hrow : RowC w a' m c' 2 xs') (h1 : ∀ u ∈ xs', u.oneCell' = true)
    (hlen : n + m ≤ 1000000) (hbase : b ≤ w.heap.size)
    (h : ∀ a2 c2 w', OwnC w' b a2 (n + m) c2 81 2 (xs ++ xs') → Below b w w' → w.grownBy w' (rowOf a c) → Moved w a c a2 c2 → K (act.put o.dst (.slice a2 (n + m) c2)) w') :
    if Region.wanted o (yielded ops act.tmps) = true then Oper.wp Tryd.prog o act w K Q else P2 :=
  step_appC Tryd.underlying29 info_Tagged rfl (by decide) hgd s x ho b a n c xs hs hown a' m c' xs' hx hrow h1 (by omega) (by unfold maxLen; omega) hbase h
end
section
variable {w : World} {o : Oper} {act : Act} {Q : Exit → Act → World → Prop}
theorem wpList_appSS {ops : Array Oper} {rest : List Oper} (hgd : o.guard = none)
    (s x : Operand) (ho : o.op = .call { callee := .builtin .append, args := #[s, x], argTypes := #[24, 24] })
    (b : Nat) (a : Option Addr) (n c : Nat) (xs : List Value) (hs : act.eval s = .slice a n c) (hown : OwnC w b a n c 23 1 xs)
    (a' : Option Addr) (m c' : Nat) (xs' : List Value) (hx : act.eval x = .slice a' m c') (hrow : RowC w a' m c' 1 xs') (h1 : ∀ u ∈ xs', u.oneCell' = true)
    (hlen : n + m ≤ 1000000) (hbase : b ≤ w.heap.size)
    (h : ∀ a2 c2 w', OwnC w' b a2 (n + m) c2 23 1 (xs ++ xs') → Below b w w' → w.grownBy w' (rowOf a c) → Moved w a c a2 c2 → wpList Tryd.prog ops Q rest (act.put o.dst (.slice a2 (n + m) c2)) w') : wpList Tryd.prog ops Q (o :: rest) act w :=
  wpList_appC Tryd.underlying24 info_ints rfl (by decide) hgd s x ho b a n c xs hs hown a' m c' xs' hx hrow h1 (by omega) (by unfold maxLen; omega) hbase h
theorem step_appSS {ops : Array Oper} {K : Act → World → Prop} {P2 : Prop} (hgd : o.guard = none)
    (s x : Operand) (ho : o.op = .call { callee := .builtin .append, args := #[s, x], argTypes := #[24, 24] })
    (b : Nat) (a : Option Addr) (n c : Nat) (xs : List Value) (hs : act.eval s = .slice a n c) (hown : OwnC w b a n c 23 1 xs)
    (a' : Option Addr) (m c' : Nat) (xs' : List Value) (hx : act.eval x = .slice a' m c') (hrow : RowC w a' m c' 1 xs') (h1 : ∀ u ∈ xs', u.oneCell' = true)
    (hlen : n + m ≤ 1000000) (hbase : b ≤ w.heap.size)
    (h : ∀ a2 c2 w', OwnC w' b a2 (n + m) c2 23 1 (xs ++ xs') → Below b w w' → w.grownBy w' (rowOf a c) → Moved w a c a2 c2 → K (act.put o.dst (.slice a2 (n + m) c2)) w') :
    if Region.wanted o (yielded ops act.tmps) = true then Oper.wp Tryd.prog o act w K Q else P2 :=
  step_appC Tryd.underlying24 info_ints rfl (by decide) hgd s x ho b a n c xs hs hown a' m c' xs' hx hrow h1 (by omega) (by unfold maxLen; omega) hbase h
end
theorem info_Message : (Tryd.prog.info? 44).map (fun i => (i.zero, i.size, i.bytes)) = some (some (.agg #[.int .i64 0, .int .i64 0, .slice none 0 0]), 3, 40) := by kernel_rfl
section
variable {w : World} {o : Oper} {act : Act} {Q : Exit → Act → World → Prop}
theorem wpList_appM {ops : Array Oper} {rest : List Oper} (hgd : o.guard = none)
    (s x : Operand) (ho : o.op = .call { callee := .builtin .append, args := #[s, x], argTypes := #[63, 63] })
    (b : Nat) (a : Option Addr) (n c : Nat) (xs : List Value) (hs : act.eval s = .slice a n c) (hown : OwnC w b a n c 44 3 xs)
    (a' : Option Addr) (m c' : Nat) (xs' : List Value) (hx : act.eval x = .slice a' m c') (hrow : RowC w a' m c' 3 xs') (h1 : ∀ u ∈ xs', u.oneCell' = true)
    (hlen : n + m ≤ 1000000) (hbase : b ≤ w.heap.size)
    (h : ∀ a2 c2 w', OwnC w' b a2 (n + m) c2 44 3 (xs ++ xs') → Below b w w' → w.grownBy w' (rowOf a c) → Moved w a c a2 c2 → wpList Tryd.prog ops Q rest (act.put o.dst (.slice a2 (n + m) c2)) w') : wpList Tryd.prog ops Q (o :: rest) act w :=
  wpList_appC Tryd.underlying63 info_Message rfl (by decide) hgd s x ho b a n c xs hs hown a' m c' xs' hx hrow h1 (by omega) (by unfold maxLen; omega) hbase h
end
end Go.Proofs.YtlmdckcohoddnaaDoor
namespace Go.Proofs.YtlmdckcohoddnaaDoor
open Go.RowKit
set_option maxHeartbeats 4000000 in
set_option maxRecDepth 100000 in
theorem CloneT_any (a : Option Addr) (n c : Nat) (l : List Int) (w : World) (h : Flat 2 w a n c l) (hs : n ≤ 100000) :
    Calls Tryd.prog 124 #[.slice a n c] w fun e w' => ∃ a' c', e = .returned (.slice a' n c') ∧ OwnF 2 eTagged w' w.heap.size a' n c' l ∧ Below w.heap.size w w' := by
  have hnil := fun (W : World) => Lib.run_eql_slice_nil W 29 81 a n c 0 0 Tryd.underlying29
  have hn := h.le
  cases a with
  | none =>
    have hc : c = 0 := h.2.2.2.1 rfl
    have hn0 : n = 0 := by have := h.2.1; omega
    subst hc; subst hn0
    have hl : l = [] := List.eq_nil_of_length_eq_zero (by have := h.len; omega)
    subst hl
    go_enter Tryd.func124, Tryd.ntmps124
    go_wp2
    go_ret
    exact ⟨_, _, rfl, OwnC.nil0 _ _ _ _ _, Below.refl _ _⟩
  | some y =>
    go_enter Tryd.func124, Tryd.ntmps124
    go_wp2_with (at_builtin; refine wpList_appT rfl _ _ rfl w.heap.size _ 0 0 [] rfl (OwnC.nil0 _ _ _ _ _) _ n c _ rfl (Flat.alloc h _) (one_ints l) (by omega) (by simp) ?_)
    intro a2 c2 w1 own hb _ _
    try simp only [Nat.zero_add, List.nil_append] at own
    have hb1 := ((Below.refl _ w).alloc (Nat.le_refl _) _).trans hb
    clear hb
    go_wp2
    go_ret
    exact ⟨_, _, ret_slice (by omega), own, hb1⟩
set_option maxHeartbeats 16000000 in
set_option maxRecDepth 100000 in
theorem copyPlayer_any (a : Pl) (x : PlX) (w : World) (h : PlR w x a.shares a.keys a.heard) (hN : PlN a) :
    Calls Tryd.prog 95 #[.agg #[.int .i64 a.P, .int .i64 a.party, .int .i64 a.input, .int .i64 a.mask, .int .i64 a.delta, .slice x.sa x.sn x.sc, .slice x.ka x.kn x.kc, .int .i64 a.step, .slice x.ha x.hn x.hc, .int .i64 a.status, .int .i64 a.out]] w fun e w' => ∃ y F, e = .returned (.agg #[.int .i64 a.P, .int .i64 a.party, .int .i64 a.input, .int .i64 a.mask, .int .i64 a.delta, .slice y.sa y.sn y.sc, .slice y.ka y.kn y.kc, .int .i64 a.step, .slice y.ha y.hn y.hc, .int .i64 a.status, .int .i64 a.out]) ∧ PlO w' w.heap.size y a.shares a.keys a.heard F ∧ Below w.heap.size w w' := by
  obtain ⟨hS, hK, rs, hH, hD⟩ := h
  have hs5 : x.sn = 5 := by have := hS.len; have := hN.sl; omega
  have hk5 : x.kn = 5 := by have := hK.len; have := hN.kl; omega
  have hrl := hH.len
  have hh3 : x.hn ≤ 3 := by have := hN.hl; have := hN.stp; have : rs.length = a.heard.length := by rw [← hD, datas_len]
                            omega
  have hdl : a.heard.length = x.hn := by rw [← hD, datas_len]; exact hrl
  have HR := Lib.hid (fun (k : Nat) (hk : k < x.hn) => (show (rowAt rs k).2.2 = hAt a.heard k ∧ (rowAt rs k).2.2.length ≤ 4 by
    have e := hAt_rs hD k (by omega)
    exact ⟨e.symm, by rw [← e, (hN.hb k (by omega)).1]; exact (blen_bd k).2⟩))
  have HL := Lib.hid hdl
  have CT := Lib.hid (fun (W : World) (h2 : Flat 2 W x.sa x.sn x.sc a.shares) => CloneT_any x.sa x.sn x.sc a.shares W h2 (by omega))
  have CK := Lib.hid (fun (W : World) (h2 : Ints W x.ka x.kn x.kc a.keys) => Clone_any x.ka x.kn x.kc a.keys W h2 (by omega))
  clear hN hD hrl hdl
  obtain ⟨x_sa, x_sn, x_sc, x_ka, x_kn, x_kc, x_ha, x_hn, x_hc⟩ := x
  dsimp only at *
  subst hs5
  subst hk5
  go_enter Tryd.func95, Tryd.ntmps95
  go_upto_region 1 with fail
  refine Exists.elim (Blk.new_ w (b := w.heap.size) rfl 31 #[.int .i64 a.P, .int .i64 a.party, .int .i64 a.input, .int .i64 a.mask, .int .i64 a.delta, .slice x_sa 5 x_sc, .slice x_ka 5 x_kc, .int .i64 a.step, .slice x_ha x_hn x_hc, .int .i64 a.status, .int .i64 a.out]) (fun w1_a0' q => ?_)
  rw [q.1]; have B_a := q.2.1; have s_w1_a0' := q.2.2.1; have u_w1_a0' := q.2.2.2; clear q
  refine Exists.elim (Blk.new_ w1_a0' (b := w.heap.size + 1) s_w1_a0' 31 #[.int .i64 0, .int .i64 0, .int .i64 0, .int .i64 0, .int .i64 0, .slice none 0 0, .slice none 0 0, .int .i64 0, .slice none 0 0, .int .i64 0, .int .i64 0]) (fun w1' q => ?_)
  rw [q.1]; have B_r := q.2.1; have s_w1' := q.2.2.1; have u_w1' := q.2.2.2; clear q
  replace B_a := (B_a.below u_w1')
  have U := (u_w1_a0'.trans (u_w1'.mono u_w1_a0'.size))
  have S_w1' : w.heap.size + 2 ≤ w1'.heap.size := Nat.le_of_eq s_w1'.symm
  have V_w1' := (Below.refl w.heap.size w).trans (U.mono ((Below.refl w.heap.size w)).size)
  clear u_w1_a0' u_w1' s_w1_a0' s_w1' U
  have e_a_0 := B_a.a11_0
  have e_a_1 := B_a.a11_1
  have e_a_2 := B_a.a11_2
  have e_a_3 := B_a.a11_3
  have e_a_4 := B_a.a11_4
  have e_a_5 := B_a.a11_5
  have e_a_6 := B_a.a11_6
  have e_a_7 := B_a.a11_7
  have e_a_8 := B_a.a11_8
  have e_a_9 := B_a.a11_9
  have e_a_10 := B_a.a11_10
  have hS1 := hS.below V_w1'.drew
  have hK1 := hK.below V_w1'.drew
  have B1 := B_a.drew
  go_region_with (first
    | (go_at_call 124; refine (CT.out _ hS1).mono ?_; rintro e wa ⟨b5, d5, rfl, o5, u5⟩; have B2 := Blk.below B1 u5; have g6 := B2.cell 6; have hK2 := hK1.below u5)
    | (go_at_call 118; refine (CK.out _ hK2).mono ?_; rintro e wb ⟨b6, d6, rfl, o6, u6⟩; have B3 := Blk.below B2 u6; have h5 := B3.cell 5; have h6 := B3.cell 6; have k5 := B3.frozen 5; have k6 := B3.frozen 6))
  all_goals
    have u9 : Below w1'.heap.size w1' wb := (Below.refl _ _).drew.trans (u5.trans (u6.mono u5.size))
    have D56 : Disj (foot b5 d5) (foot b6 d6) := Disj.of_rng o5.feet o6.feet (Or.inl (Nat.le_refl _))
    replace o5 := (OwnF.below o5 u6).lower (b' := w.heap.size + 2) S_w1'
    replace o6 := o6.lower (b' := w.heap.size + 2) (Nat.le_trans S_w1' u5.size)
    clear u5 u6 B1 B2 B3 g6 hK1 hK2 hS1 h5 h6 k5 k6
    clear e_a_0 e_a_1 e_a_2 e_a_3 e_a_4 e_a_5 e_a_6 e_a_7 e_a_8 e_a_9 e_a_10
    replace B_a := B_a.below u9
    replace B_r := B_r.below u9
    have S_wb := u9.size
    have V_wb : Below w.heap.size w wb := V_w1'.trans (u9.mono V_w1'.size)
    clear V_w1'
    clear u9
    have Q_o5 := Lib.hid o5.feet
    have Q_o6 := Lib.hid o6.feet
    have g_1 : Only [w.heap.size] wb (wb.setCell ⟨w.heap.size, 5, none⟩ (.slice b5 5 d5)) := (Only.refl _ _).setCell _ _ (by simp)
    replace B_a := B_a.set_ 5 (.slice b5 5 d5)
    generalize wb.setCell ⟨w.heap.size, 5, none⟩ (.slice b5 5 d5) = w2_1' at *
    have G := g_1
    clear g_1
    have g_2 : Only [w.heap.size] w2_1' (w2_1'.setCell ⟨w.heap.size, 6, none⟩ (.slice b6 5 d6)) := (Only.refl _ _).setCell _ _ (by simp)
    replace B_a := B_a.set_ 6 (.slice b6 5 d6)
    generalize w2_1'.setCell ⟨w.heap.size, 6, none⟩ (.slice b6 5 d6) = w2' at *
    replace G := G.trans g_2
    clear g_2
    simp only [List.setIfInBounds_toArray, List.set_cons_zero, List.set_cons_succ] at B_a
    have V_w2' := (V_wb).trans (G.below (V_wb).size (fun q hq => by have := (V_wb).size; simp at hq; omega))
    replace B_r := B_r.only G (by first | (simp; done) | (simp; omega))
    replace o5 := o5.only G (fun q hq hq' => by have := Q_o5.out q hq; simp at hq'; omega)
    replace o6 := o6.only G (fun q hq hq' => by have := Q_o6.out q hq; simp at hq'; omega)
    have sG0 := G.size
    clear G
    clear V_wb
    have S_w2' : wb.heap.size + 0 ≤ w2'.heap.size := by omega
    clear sG0
    have e_a_0 := B_a.a11_0
    have e_a_1 := B_a.a11_1
    have e_a_2 := B_a.a11_2
    have e_a_3 := B_a.a11_3
    have e_a_4 := B_a.a11_4
    have e_a_5 := B_a.a11_5
    have e_a_6 := B_a.a11_6
    have e_a_7 := B_a.a11_7
    have e_a_8 := B_a.a11_8
    have e_a_9 := B_a.a11_9
    have e_a_10 := B_a.a11_10
    have e8A : (w2'.alloc (.cells #[] 23)).cell? ⟨w.heap.size, 8, none⟩ = some (.slice x_ha x_hn x_hc) := keepA _ e_a_8
    go_wp2
    clear e_a_0 e_a_1 e_a_2 e_a_3 e_a_4 e_a_5 e_a_6 e_a_7 e_a_8 e_a_9 e_a_10
    clear e8A
    refine Exists.elim (Blk.new_ w2' (b := w2'.heap.size) rfl 23 #[]) (fun w3' q => ?_)
    rw [q.1]; have B_z := q.2.1; have s_w3' := q.2.2.1; have u_w3' := q.2.2.2; clear q
    replace B_a := B_a.below u_w3'
    replace B_r := B_r.below u_w3'
    replace o5 := o5.below u_w3'
    replace o6 := o6.below u_w3'
    have S_w3' : w2'.heap.size + 1 ≤ w3'.heap.size := Nat.le_of_eq s_w3'.symm
    have V_w3' := V_w2'.trans (u_w3'.mono (V_w2').size)
    clear u_w3' s_w3' V_w2'
    clear B_z
    have VB := V_w3'
    have SB := V_w3'.size
    have SB2 : w.heap.size + 2 ≤ w3'.heap.size := by have := S_w1'; have := S_wb; have := S_w2'; have := S_w3'; omega
    have R5 := Lib.hid o5.feet
    have R6 := Lib.hid o6.feet
    go_loopw [3, 18] (fun v u wr => ∃ k : Nat, k ≤ x_hn ∧ u = .int .i64 k ∧ Below w3'.heap.size w3' wr ∧ ∃ c3 d3 rs', v = .slice c3 k d3 ∧ OwnSS wr w3'.heap.size c3 k d3 rs' ∧ datas' rs' = a.heard.take k) (fun _ u _ => x_hn - (intOf u).toNat)
    case atStart => exact ⟨0, by omega, rfl, Below.refl _ _, _, _, [], rfl, OwnSS.nil0 _ _ _, by simp [datas']⟩
    case round =>
      obtain ⟨k, hk, rfl, hbel, c3, d3, rs', rfl, own, hd3⟩ := hrel
      have B_a := B_a.below hbel
      have B_r := B_r.below hbel
      have o5 := o5.below hbel
      have o6 := o6.below hbel
      have V_wr := V_w3'.trans (hbel.mono V_w3'.size)
      have S_wr := hbel.size
      by_cases hlt : k < x_hn
      · obtain ⟨g, o, rfl, c0, inn⟩ := (hH.below V_wr).at k hlt
        obtain ⟨hr1, hr2⟩ := HR.out k hlt
        have hlt' : (k : Int) < (x_hn : Int) := by omega
        have HE : Hid (a.heard.take (k + 1) = a.heard.take k ++ [(rowAt rs k).2.2]) := Lib.hid (by
          rw [hr1, List.take_add_one]
          have : k < a.heard.length := by rw [HL.out]; exact hlt
          simp [hAt, List.getD, this])
        generalize rowAt rs k = r at *
        obtain ⟨ra, rc, rl⟩ := r
        dsimp only at *
        clear hr1
        have hd4 := Lib.hid hd3
        clear hd3
        go_wp2_with fail
        refine (Clone_any _ _ _ rl _ inn (by omega)).mono ?_; rintro e wz ⟨b9, d9, rfl, o9, u9⟩
        have own2 := own.below u9
        have hb9 := hbel.trans (u9.mono hbel.size)
        have hdj : Disj (foot b9 d9) (feetSS c3 d3 rs') := Disj.of_rng o9.feet own.feet (Or.inr (Nat.le_refl _))
        have o10 := o9.lower hbel.size
        have LIT := RowC.lit1 wz (rowV (b9, d9, rl)) 23
        have own3 := OwnSS.alloc own2 (.cells #[rowV (b9, d9, rl)] 23)
        have o11 := Own.alloc o10 (.cells #[rowV (b9, d9, rl)] 23)
        have hbA := hb9.alloc hb9.size (.cells #[rowV (b9, d9, rl)] 23)
        have hszA := hbA.size
        have OO : OwnC (wz.alloc (.cells #[rowV (b9, d9, rl)] 23)) w3'.heap.size c3 k d3 23 1 (rs'.map rowV) := own3.out
        clear own own2 hb9 o9 o10 u9 c0 inn
        go_wp2_with (at_builtin; go_loud (refine wpList_appSS rfl _ _ rfl w3'.heap.size c3 k d3 (rs'.map rowV) rfl OO _ 1 1 [rowV (b9, d9, rl)] rfl LIT (by simp [rowV, Value.oneCell']) (by omega) hszA ?_))
        intro a7 c7 w7 oc u7 g7 m7
        have own4 := own3.push (r := (b9, d9, rl)) o11 hdj oc g7 m7
        have hb7 := hbA.trans u7
        have hd5 := Lib.hid ((show datas' (rs' ++ [(b9, d9, rl)]) = a.heard.take (k + 1) by rw [HE.out, ← hd4.out]; simp [datas']))
        clear own3 o11 oc u7 g7 m7 hbA hdj LIT OO hszA
        go_wp2
        go_roundw
        case rel => exact ⟨k + 1, by omega, by go_num, hb7, a7, c7, _, rfl, own4, hd5.out⟩
        case measure => simp [intOf]; omega
      · obtain rfl : x_hn = k := by omega
        have QQ := Lib.hid own.feet
        have hdd : datas' rs' = a.heard := by rw [hd3, ← HL.out, List.take_length]
        replace hdd := Lib.hid hdd
        have E1 : Disj (foot b5 d5) (feetSS c3 d3 rs') := Disj.of_rng R5.out own.feet (Or.inl (Nat.le_refl _))
        have E2 : Disj (foot b6 d6) (feetSS c3 d3 rs') := Disj.of_rng R6.out own.feet (Or.inl (Nat.le_refl _))
        replace own := own.lower (b' := w.heap.size + 2) SB2
        have Q_own := Lib.hid own.feet
        clear hd3 hbel
        have e_a_0 := B_a.a11_0
        have f_a_0 := B_a.frozen 0
        have e_a_1 := B_a.a11_1
        have f_a_1 := B_a.frozen 1
        have e_a_2 := B_a.a11_2
        have f_a_2 := B_a.frozen 2
        have e_a_3 := B_a.a11_3
        have f_a_3 := B_a.frozen 3
        have e_a_4 := B_a.a11_4
        have f_a_4 := B_a.frozen 4
        have e_a_5 := B_a.a11_5
        have f_a_5 := B_a.frozen 5
        have e_a_6 := B_a.a11_6
        have f_a_6 := B_a.frozen 6
        have e_a_7 := B_a.a11_7
        have f_a_7 := B_a.frozen 7
        have e_a_8 := B_a.a11_8
        have f_a_8 := B_a.frozen 8
        have e_a_9 := B_a.a11_9
        have f_a_9 := B_a.frozen 9
        have e_a_10 := B_a.a11_10
        have f_a_10 := B_a.frozen 10
        have e_r := B_r.all11
        have f_r := B_r.frz11
        go_wp2
        clear e_a_0 f_a_0 e_a_1 f_a_1 e_a_2 f_a_2 e_a_3 f_a_3 e_a_4 f_a_4 e_a_5 f_a_5 e_a_6 f_a_6 e_a_7 f_a_7 e_a_8 f_a_8 e_a_9 f_a_9 e_a_10 f_a_10 e_r f_r
        have g_1 : Only [w.heap.size] wr (wr.setCell ⟨w.heap.size, 8, none⟩ (.slice c3 x_hn d3)) := (Only.refl _ _).setCell _ _ (by simp)
        replace B_a := B_a.set_ 8 (.slice c3 x_hn d3)
        generalize wr.setCell ⟨w.heap.size, 8, none⟩ (.slice c3 x_hn d3) = w4_1' at *
        have G := g_1
        clear g_1
        simp only [List.setIfInBounds_toArray, List.set_cons_zero, List.set_cons_succ] at B_a
        have V_w4'_0 := (V_wr).trans (G.below (V_wr).size (fun q hq => by have := (V_wr).size; simp at hq; omega))
        replace B_r := B_r.only G (by first | (simp; done) | (simp; omega))
        replace o5 := o5.only G (fun q hq hq' => by have := Q_o5.out q hq; simp at hq'; omega)
        replace o6 := o6.only G (fun q hq hq' => by have := Q_o6.out q hq; simp at hq'; omega)
        replace own := own.only G (fun q hq hq' => by have := Q_own.out q hq; simp at hq'; omega)
        have sG0 := G.size
        clear G
        clear V_wr
        refine Exists.elim (B_r.row11 (.int .i64 a.P) (.int .i64 a.party) (.int .i64 a.input) (.int .i64 a.mask) (.int .i64 a.delta) (.slice b5 5 d5) (.slice b6 5 d6) (.int .i64 a.step) (.slice c3 x_hn d3) (.int .i64 a.status) (.int .i64 a.out)) (fun w4' q => ?_)
        rw [q.1]; replace B_r := q.2.1; have G := q.2.2; clear q
        have V_w4' := (V_w4'_0).trans (G.below (V_w4'_0).size (fun q hq => by have := (V_w4'_0).size; simp at hq; omega))
        replace B_a := B_a.only G (by first | (simp; done) | (simp; omega))
        replace o5 := o5.only G (fun q hq hq' => by have := Q_o5.out q hq; simp at hq'; omega)
        replace o6 := o6.only G (fun q hq hq' => by have := Q_o6.out q hq; simp at hq'; omega)
        replace own := own.only G (fun q hq hq' => by have := Q_own.out q hq; simp at hq'; omega)
        have sG1 := G.size
        clear G
        clear V_w4'_0
        have S_w4' : wr.heap.size + 0 ≤ w4'.heap.size := by omega
        clear sG0 sG1
        have e_r := B_r.all11
        exact bodyPost_ret (v := .agg #[.int .i64 a.P, .int .i64 a.party, .int .i64 a.input, .int .i64 a.mask, .int .i64 a.delta, .slice b5 5 d5, .slice b6 5 d6, .int .i64 a.step, .slice c3 x_hn d3, .int .i64 a.status, .int .i64 a.out]) (by simp [results, Tryd.results95, go_sem, e_r]) rfl ⟨⟨b5, 5, d5, b6, 5, d6, c3, x_hn, d3⟩, _, rfl, ⟨OwnF.lower o5 (by omega), o6.lower (by omega), rs', own.lower (by omega), hdd.out, D56, E1, E2, rfl⟩, V_w4'⟩
end Go.Proofs.YtlmdckcohoddnaaDoor
