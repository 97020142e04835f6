/- Players: the reference's shares of its second message. -/
import Derived.Test.YtlmdckcohoddnaaDoorSpA
import Derived.Test.YtlmdckcohoddnaaDoorAppC
import Derived.Test.YtlmdckcohoddnaaDoorBodyT
import Derived.Test.YtlmdckcohoddnaaDoorBend
namespace Go.Proofs.YtlmdckcohoddnaaDoor
open Go.RowKit
theorem keepS {w wz : World} {q : Addr} {v : Value} (h0 : w.cell? q = some v) (i : Nat) (u : Value) (h : wz.cell? q = some v) : (wz.setCell ⟨w.heap.size, i, none⟩ u).cell? q = some v :=
  cellFar h (by have := World.block_lt_of_cell? w _ h0; show q.block ≠ w.heap.size; omega)
set_option maxHeartbeats 16000000 in
set_option maxRecDepth 100000 in
theorem ptSecond_any (a : Pl) (x : PlX) (w : World) (h : PlR w x a.shares a.keys a.heard) (hN : PlN a) (hs : 1 ≤ a.step) :
    Calls Tryd.prog 133 #[.agg #[.int .i64 a.P, .int .i64 a.party, .int .i64 a.input, .int .i64 a.mask, .int .i64 a.delta, .slice x.sa x.sn x.sc, .slice x.ka x.kn x.kc, .int .i64 a.step, .slice x.ha x.hn x.hc, .int .i64 a.status, .int .i64 a.out]] w fun e w' => ∃ b c, e = .returned (.slice b 2 c) ∧ Flat 2 w' b 2 c [seV0 a, seT0 a, seV1 a, seT1 a] ∧ Below w.heap.size w w' := by
  have hp1 := hN.p1
  have hp2 := hN.p2
  have q0 := f0_rng hN hs
  have q1 := f1_rng hN hs
  have LH := Lib.hid h
  have CF := Lib.hid (fun (W : World) (h2 : PlR W x a.shares a.keys a.heard) => ptFirst_any a x W h2 hN hs)
  have rv0 := hN.sv 0 (by omega)
  have rt0 := hN.st 0 (by omega)
  have rv2 := hN.sv 2 (by omega)
  have rt2 := hN.st 2 (by omega)
  have rs0 := shfV_rng hN (shV a 0) (f0 a) rv0
  have CS0 := Lib.hid (fun (W : World) => ptShift_any a x (shV a 0) (shT a 0) (f0 a) W hN (by omega) (by omega))
  have CA0 := Lib.hid (fun (W : World) => (show Calls Tryd.prog 142 #[.int .i64 a.P, .agg #[.int .i64 (shfV a (shV a 0) (f0 a)), .int .i64 (shT a 0)], .agg #[.int .i64 (shV a 2), .int .i64 (shT a 2)], .int .i64 (a.P - 1)] W fun e w' => e = .returned (.agg #[.int .i64 (seV0 a), .int .i64 (seT0 a)]) ∧ Below W.heap.size W w' by rw [← seV0_eq hN, ← seT0_eq]; exact tgAdd_any a.P (shfV a (shV a 0) (f0 a)) (shT a 0) (shV a 2) (shT a 2) (a.P - 1) W (by omega) (by omega) rs0 rt0 rv2 rt2 (by omega)))
  have rv1 := hN.sv 1 (by omega)
  have rt1 := hN.st 1 (by omega)
  have rv3 := hN.sv 3 (by omega)
  have rt3 := hN.st 3 (by omega)
  have rs1 := shfV_rng hN (shV a 1) (f1 a) rv1
  have CS1 := Lib.hid (fun (W : World) => ptShift_any a x (shV a 1) (shT a 1) (f1 a) W hN (by omega) (by omega))
  have CA1 := Lib.hid (fun (W : World) => (show Calls Tryd.prog 142 #[.int .i64 a.P, .agg #[.int .i64 (shfV a (shV a 1) (f1 a)), .int .i64 (shT a 1)], .agg #[.int .i64 (shV a 3), .int .i64 (shT a 3)], .int .i64 (a.P - 1)] W fun e w' => e = .returned (.agg #[.int .i64 (seV1 a), .int .i64 (seT1 a)]) ∧ Below W.heap.size W w' by rw [← seV1_eq hN, ← seT1_eq]; exact tgAdd_any a.P (shfV a (shV a 1) (f1 a)) (shT a 1) (shV a 3) (shT a 3) (a.P - 1) W (by omega) (by omega) rs1 rt1 rv3 rt3 (by omega)))
  have t1 : IntKind.i64.wrap (a.P - 1) = a.P - 1 := IntWalk.i64_in _ (by omega)
  have sw0 : IntKind.i64.wrap 0 = 0 := IntWalk.i64_in _ (by omega)
  have sw1 : IntKind.i64.wrap 1 = 1 := IntWalk.i64_in _ (by omega)
  have sw2 : IntKind.i64.wrap 2 = 2 := IntWalk.i64_in _ (by omega)
  have sw3 : IntKind.i64.wrap 3 = 3 := IntWalk.i64_in _ (by omega)
  obtain ⟨hS, _⟩ := h
  have hs5 : x.sn = 5 := by have := hS.len; have := hN.sl; omega
  obtain ⟨gs, os, hsa, hc⟩ := hS.at (by omega)
  have hsn : (x.sn : Int) = 5 := by omega
  have y0 : w.cell? ⟨gs, os, none⟩ = some (.int .i64 (shV a 0)) := hc 0 (by omega)
  have y1 : w.cell? ⟨gs, os + 1, none⟩ = some (.int .i64 (shT a 0)) := hc 1 (by omega)
  have y2 : w.cell? ⟨gs, os + 2, none⟩ = some (.int .i64 (shV a 1)) := hc 2 (by omega)
  have y3 : w.cell? ⟨gs, os + 3, none⟩ = some (.int .i64 (shT a 1)) := hc 3 (by omega)
  have y4 : w.cell? ⟨gs, os + 4, none⟩ = some (.int .i64 (shV a 2)) := hc 4 (by omega)
  have y5 : w.cell? ⟨gs, os + 5, none⟩ = some (.int .i64 (shT a 2)) := hc 5 (by omega)
  have y6 : w.cell? ⟨gs, os + 6, none⟩ = some (.int .i64 (shV a 3)) := hc 6 (by omega)
  have y7 : w.cell? ⟨gs, os + 7, none⟩ = some (.int .i64 (shT a 3)) := hc 7 (by omega)
  clear hc hS hN hs
  obtain ⟨x_sa, x_sn, x_sc, x_ka, x_kn, x_kc, x_ha, x_hn, x_hc⟩ := x
  dsimp only at *
  subst hsa
  subst hs5

  go_enter Tryd.func133, Tryd.ntmps133
  go_wp2_with fail
  have V_w1'_1 : Below w.heap.size w (w.alloc (.cells #[.int .i64 a.P, .int .i64 a.party, .int .i64 a.input, .int .i64 a.mask, .int .i64 a.delta, .slice (some ⟨gs, os, none⟩) 5 x_sc, .slice x_ka x_kn x_kc, .int .i64 a.step, .slice x_ha x_hn x_hc, .int .i64 a.status, .int .i64 a.out] 31)) := ((Below.refl w.heap.size w)).alloc (by have := ((Below.refl w.heap.size w)).size; first | exact this | (simp at *; omega)) _
  have B_a : Blk (w.alloc (.cells #[.int .i64 a.P, .int .i64 a.party, .int .i64 a.input, .int .i64 a.mask, .int .i64 a.delta, .slice (some ⟨gs, os, none⟩) 5 x_sc, .slice x_ka x_kn x_kc, .int .i64 a.step, .slice x_ha x_hn x_hc, .int .i64 a.status, .int .i64 a.out] 31)) (w.heap.size) 31 #[.int .i64 a.P, .int .i64 a.party, .int .i64 a.input, .int .i64 a.mask, .int .i64 a.delta, .slice (some ⟨gs, os, none⟩) 5 x_sc, .slice x_ka x_kn x_kc, .int .i64 a.step, .slice x_ha x_hn x_hc, .int .i64 a.status, .int .i64 a.out] := by exact Blk.new w 31 #[.int .i64 a.P, .int .i64 a.party, .int .i64 a.input, .int .i64 a.mask, .int .i64 a.delta, .slice (some ⟨gs, os, none⟩) 5 x_sc, .slice x_ka x_kn x_kc, .int .i64 a.step, .slice x_ha x_hn x_hc, .int .i64 a.status, .int .i64 a.out]
  have S_w1' : w.heap.size + 1 ≤ (w.alloc (.cells #[.int .i64 a.P, .int .i64 a.party, .int .i64 a.input, .int .i64 a.mask, .int .i64 a.delta, .slice (some ⟨gs, os, none⟩) 5 x_sc, .slice x_ka x_kn x_kc, .int .i64 a.step, .slice x_ha x_hn x_hc, .int .i64 a.status, .int .i64 a.out] 31)).heap.size := by first | (simp; done) | (simp; omega) | (simp [World.setCell]; done) | (simp [World.setCell]; omega)
  generalize (w.alloc (.cells #[.int .i64 a.P, .int .i64 a.party, .int .i64 a.input, .int .i64 a.mask, .int .i64 a.delta, .slice (some ⟨gs, os, none⟩) 5 x_sc, .slice x_ka x_kn x_kc, .int .i64 a.step, .slice x_ha x_hn x_hc, .int .i64 a.status, .int .i64 a.out] 31)) = w1' at *
  have V_w1' : Below w.heap.size w w1' := V_w1'_1
  clear V_w1'_1
  refine (CF.out _ (LH.out.below V_w1')).mono ?_
  rintro e w2' ⟨bf, cf, rfl, hf, u_w2'⟩
  replace B_a := B_a.below u_w2'
  have S_w2' := u_w2'.size
  have V_w2' : Below w.heap.size w w2' := V_w1'.trans (u_w2'.mono V_w1'.size)
  clear V_w1'
  clear u_w2'
  obtain ⟨gf, of, rfl, hfc⟩ := hf.cells (by omega)
  have z0 := hfc 0 (by omega)
  have z1 := hfc 1 (by omega)
  rw [Nat.add_zero] at z0
  change w2'.cell? ⟨gf, of, none⟩ = some (.int .i64 (f0 a)) at z0
  change w2'.cell? ⟨gf, of + 1, none⟩ = some (.int .i64 (f1 a)) at z1
  clear hfc hf
  have VB := V_w2'
  have SB := V_w2'.size
  go_wp2
  go_loopw [4, 5] (fun u v wr => ∃ k : Nat, k ≤ 2 ∧ v = .int .i64 k ∧ Below w2'.heap.size w2' wr ∧ ∃ c5 d5, u = .slice c5 k d5 ∧ OwnF 2 eTagged wr w2'.heap.size c5 k d5 ([seV0 a, seT0 a, seV1 a, seT1 a].take (2 * k))) (fun _ v _ => 2 - (intOf v).toNat)
  case atStart => exact ⟨0, by omega, rfl, Below.refl _ _, _, _, rfl, OwnC.nil0 _ _ _ _ _⟩
  case round =>
    obtain ⟨k, hk, rfl, hbel, c5, d5, rfl, own⟩ := hrel

    have B_a := B_a.below hbel
    have V_wr := V_w2'.trans (hbel.mono V_w2'.size)
    have S_wr := hbel.size
    by_cases hlt : k < 2
    · have hcase : k = 0 ∨ k = 1 := by omega
      rcases hcase with rfl | rfl
      · skip

        have own' : OwnF 2 eTagged wr w2'.heap.size c5 0 d5 [] := own
        clear own
        rw [show ((0 : Nat) : Int) = 0 from rfl]
        have QF := Lib.hid own'.feet
        have ga := World.block_lt_of_cell? w _ y0
        dsimp only at ga
        have Na : w.heap.size ∉ foot c5 d5 := fun hq => by have := QF.out _ hq; have := S_w1'; have := S_w2'; omega
        have Ng : gs ∉ foot c5 d5 := fun hq => by have := QF.out _ hq; have := SB; omega
        have SR : w2'.heap.size ≤ wr.heap.size := hbel.size
        have p0 := keepC V_wr y0
        have p1 := keepC V_wr y1
        have p2 := keepC V_wr y4
        have p3 := keepC V_wr y5
        have p4 := keepC hbel z0

        go_wp2
        have e_a_0 : wr.cell? ⟨w.heap.size, 0, none⟩ = some (.int .i64 a.P) := B_a.cell 0
        have e_a_1 : wr.cell? ⟨w.heap.size, 1, none⟩ = some (.int .i64 a.party) := B_a.cell 1
        have e_a_2 : wr.cell? ⟨w.heap.size, 2, none⟩ = some (.int .i64 a.input) := B_a.cell 2
        have e_a_3 : wr.cell? ⟨w.heap.size, 3, none⟩ = some (.int .i64 a.mask) := B_a.cell 3
        have e_a_4 : wr.cell? ⟨w.heap.size, 4, none⟩ = some (.int .i64 a.delta) := B_a.cell 4
        have e_a_5 : wr.cell? ⟨w.heap.size, 5, none⟩ = some (.slice (some ⟨gs, os, none⟩) 5 x_sc) := B_a.cell 5
        have e_a_6 : wr.cell? ⟨w.heap.size, 6, none⟩ = some (.slice x_ka x_kn x_kc) := B_a.cell 6
        have e_a_7 : wr.cell? ⟨w.heap.size, 7, none⟩ = some (.int .i64 a.step) := B_a.cell 7
        have e_a_8 : wr.cell? ⟨w.heap.size, 8, none⟩ = some (.slice x_ha x_hn x_hc) := B_a.cell 8
        have e_a_9 : wr.cell? ⟨w.heap.size, 9, none⟩ = some (.int .i64 a.status) := B_a.cell 9
        have e_a_10 : wr.cell? ⟨w.heap.size, 10, none⟩ = some (.int .i64 a.out) := B_a.cell 10
        go_region_held3 (fun W => W.cell? ⟨w.heap.size, 0, none⟩ = some (.int .i64 a.P) ∧ W.cell? ⟨w.heap.size, 1, none⟩ = some (.int .i64 a.party) ∧ W.cell? ⟨w.heap.size, 2, none⟩ = some (.int .i64 a.input) ∧ W.cell? ⟨w.heap.size, 3, none⟩ = some (.int .i64 a.mask) ∧ W.cell? ⟨w.heap.size, 4, none⟩ = some (.int .i64 a.delta) ∧ W.cell? ⟨w.heap.size, 5, none⟩ = some (.slice (some ⟨gs, os, none⟩) 5 x_sc) ∧ W.cell? ⟨w.heap.size, 6, none⟩ = some (.slice x_ka x_kn x_kc) ∧ W.cell? ⟨w.heap.size, 7, none⟩ = some (.int .i64 a.step) ∧ W.cell? ⟨w.heap.size, 8, none⟩ = some (.slice x_ha x_hn x_hc) ∧ W.cell? ⟨w.heap.size, 9, none⟩ = some (.int .i64 a.status) ∧ W.cell? ⟨w.heap.size, 10, none⟩ = some (.int .i64 a.out) ∧ W.cell? ⟨gs, os, none⟩ = some (.int .i64 (shV a 0)) ∧ W.cell? ⟨gs, os + 1, none⟩ = some (.int .i64 (shT a 0)) ∧ W.cell? ⟨gf, of, none⟩ = some (.int .i64 (f0 a)))
          (first | exact ⟨e_a_0, e_a_1, e_a_2, e_a_3, e_a_4, e_a_5, e_a_6, e_a_7, e_a_8, e_a_9, e_a_10, p0, p1, p4⟩ | exact ⟨keepA _ e_a_0, keepA _ e_a_1, keepA _ e_a_2, keepA _ e_a_3, keepA _ e_a_4, keepA _ e_a_5, keepA _ e_a_6, keepA _ e_a_7, keepA _ e_a_8, keepA _ e_a_9, keepA _ e_a_10, keepA _ p0, keepA _ p1, keepA _ p4⟩ | exact ⟨keepC u (keepA _ e_a_0), keepC u (keepA _ e_a_1), keepC u (keepA _ e_a_2), keepC u (keepA _ e_a_3), keepC u (keepA _ e_a_4), keepC u (keepA _ e_a_5), keepC u (keepA _ e_a_6), keepC u (keepA _ e_a_7), keepC u (keepA _ e_a_8), keepC u (keepA _ e_a_9), keepC u (keepA _ e_a_10), keepC u (keepA _ p0), keepC u (keepA _ p1), keepC u (keepA _ p4)⟩ | exact ⟨keepC u e_a_0, keepC u e_a_1, keepC u e_a_2, keepC u e_a_3, keepC u e_a_4, keepC u e_a_5, keepC u e_a_6, keepC u e_a_7, keepC u e_a_8, keepC u e_a_9, keepC u e_a_10, keepC u p0, keepC u p1, keepC u p4⟩ | exact ⟨keepA _ (keepC u e_a_0), keepA _ (keepC u e_a_1), keepA _ (keepC u e_a_2), keepA _ (keepC u e_a_3), keepA _ (keepC u e_a_4), keepA _ (keepC u e_a_5), keepA _ (keepC u e_a_6), keepA _ (keepC u e_a_7), keepA _ (keepC u e_a_8), keepA _ (keepC u e_a_9), keepA _ (keepC u e_a_10), keepA _ (keepC u p0), keepA _ (keepC u p1), keepA _ (keepC u p4)⟩ | exact ⟨keepS e_a_0 _ _ (keepS e_a_0 _ _ (keepC u (keepA _ e_a_0))), keepS e_a_1 _ _ (keepS e_a_1 _ _ (keepC u (keepA _ e_a_1))), keepS e_a_2 _ _ (keepS e_a_2 _ _ (keepC u (keepA _ e_a_2))), keepS e_a_3 _ _ (keepS e_a_3 _ _ (keepC u (keepA _ e_a_3))), keepS e_a_4 _ _ (keepS e_a_4 _ _ (keepC u (keepA _ e_a_4))), keepS e_a_5 _ _ (keepS e_a_5 _ _ (keepC u (keepA _ e_a_5))), keepS e_a_6 _ _ (keepS e_a_6 _ _ (keepC u (keepA _ e_a_6))), keepS e_a_7 _ _ (keepS e_a_7 _ _ (keepC u (keepA _ e_a_7))), keepS e_a_8 _ _ (keepS e_a_8 _ _ (keepC u (keepA _ e_a_8))), keepS e_a_9 _ _ (keepS e_a_9 _ _ (keepC u (keepA _ e_a_9))), keepS e_a_10 _ _ (keepS e_a_10 _ _ (keepC u (keepA _ e_a_10))), keepS p0 _ _ (keepS p0 _ _ (keepC u (keepA _ p0))), keepS p1 _ _ (keepS p1 _ _ (keepC u (keepA _ p1))), keepS p4 _ _ (keepS p4 _ _ (keepC u (keepA _ p4)))⟩ | go_keep)
          (first | (go_at_call 143; refine (CS0.out _).mono ?_; rintro e wz ⟨rfl, u⟩; have BO : Blk wz wr.heap.size 81 #[.int .i64 0, .int .i64 0] := Blk.below (Blk.new wr 81 #[.int .i64 0, .int .i64 0]).drew u; have bo0 : wz.cell? ⟨wr.heap.size, 0, none⟩ = some (.int .i64 0) := BO.cell 0; have bf0 : wz.frozen? ⟨wr.heap.size, 0, none⟩ = false := BO.frozen 0; have bo1 : wz.cell? ⟨wr.heap.size, 1, none⟩ = some (.int .i64 0) := BO.cell 1; have bf1 : wz.frozen? ⟨wr.heap.size, 1, none⟩ = false := BO.frozen 1) | (go_at_call 143; refine (CS0.out _).mono ?_; rintro e wz ⟨rfl, u⟩))
        all_goals first
          | (have u1 : Below wr.heap.size wr wz := ((Below.refl _ wr).alloc (Nat.le_refl _) (.cells #[.int .i64 0, .int .i64 0] 81)).drew.trans (u.mono (by simp))
             have G : Only [wr.heap.size] wz ((wz.setCell ⟨wr.heap.size, 0, none⟩ (.int .i64 (shfV a (shV a 0) (f0 a)))).setCell ⟨wr.heap.size, 1, none⟩ (.int .i64 (shT a 0))) := (((Only.refl [wr.heap.size] wz).setCell ⟨wr.heap.size, 0, none⟩ (.int .i64 (shfV a (shV a 0) (f0 a))) (by simp)).setCell ⟨wr.heap.size, 1, none⟩ (.int .i64 (shT a 0)) (by simp))
             have hV : Below wr.heap.size wr ((wz.setCell ⟨wr.heap.size, 0, none⟩ (.int .i64 (shfV a (shV a 0) (f0 a)))).setCell ⟨wr.heap.size, 1, none⟩ (.int .i64 (shT a 0))) := u1.trans (G.below u1.size (fun q hq => by simp at hq; omega))
             have B_y : Blk ((wz.setCell ⟨wr.heap.size, 0, none⟩ (.int .i64 (shfV a (shV a 0) (f0 a)))).setCell ⟨wr.heap.size, 1, none⟩ (.int .i64 (shT a 0))) wr.heap.size 81 #[.int .i64 (shfV a (shV a 0) (f0 a)), .int .i64 (shT a 0)] := ((BO.set_ 0 (.int .i64 (shfV a (shV a 0) (f0 a)))).set_ 1 (.int .i64 (shT a 0)))
             have hob : wr.heap.size ≤ wr.heap.size := Nat.le_refl _
             clear G u1 u BO bo0 bf0 bo1 bf1
             generalize ((wz.setCell ⟨wr.heap.size, 0, none⟩ (.int .i64 (shfV a (shV a 0) (f0 a)))).setCell ⟨wr.heap.size, 1, none⟩ (.int .i64 (shT a 0))) = WW at *
             generalize hob' : wr.heap.size = ob at B_y ⊢
             rw [hob'] at hob
             replace hob : wr.heap.size ≤ ob := by omega
             clear hob')
          | (have u1 : Below wr.heap.size wr wz := (Below.refl _ wr).drew.trans u
             have hV : Below wr.heap.size wr (wz.alloc (.cells #[.int .i64 (shfV a (shV a 0) (f0 a)), .int .i64 (shT a 0)] 81)) := u1.alloc u1.size _
             have B_y : Blk (wz.alloc (.cells #[.int .i64 (shfV a (shV a 0) (f0 a)), .int .i64 (shT a 0)] 81)) wz.heap.size 81 #[.int .i64 (shfV a (shV a 0) (f0 a)), .int .i64 (shT a 0)] := Blk.new _ _ _
             have hob : wr.heap.size ≤ wz.heap.size := u1.size
             clear u1 u
             generalize wz.alloc (.cells #[.int .i64 (shfV a (shV a 0) (f0 a)), .int .i64 (shT a 0)] 81) = WW at *
             generalize wz.heap.size = ob at *)
        all_goals
          have hb9 := hbel.trans (hV.mono hbel.size)
          have No : ob ∉ foot c5 d5 := fun hq => by have := (QF.out _ hq).2; omega
          have r2 := keepC hV p2
          have r3 := keepC hV p3
          clear p0 p1 p2 p3 p4
          clear e_a_0 e_a_1 e_a_2 e_a_3 e_a_4 e_a_5 e_a_6 e_a_7 e_a_8 e_a_9 e_a_10
          replace B_a := B_a.below hV
          replace own' := own'.below hV
          have S_WW := hV.size
          have V_WW : Below w.heap.size w WW := V_wr.trans (hV.mono V_wr.size)
          clear V_wr
          clear hV

          have e_a_0 : WW.cell? ⟨w.heap.size, 0, none⟩ = some (.int .i64 a.P) := B_a.cell 0
          have e_a_1 : WW.cell? ⟨w.heap.size, 1, none⟩ = some (.int .i64 a.party) := B_a.cell 1
          have e_a_2 : WW.cell? ⟨w.heap.size, 2, none⟩ = some (.int .i64 a.input) := B_a.cell 2
          have e_a_3 : WW.cell? ⟨w.heap.size, 3, none⟩ = some (.int .i64 a.mask) := B_a.cell 3
          have e_a_4 : WW.cell? ⟨w.heap.size, 4, none⟩ = some (.int .i64 a.delta) := B_a.cell 4
          have e_a_5 : WW.cell? ⟨w.heap.size, 5, none⟩ = some (.slice (some ⟨gs, os, none⟩) 5 x_sc) := B_a.cell 5
          have e_a_6 : WW.cell? ⟨w.heap.size, 6, none⟩ = some (.slice x_ka x_kn x_kc) := B_a.cell 6
          have e_a_7 : WW.cell? ⟨w.heap.size, 7, none⟩ = some (.int .i64 a.step) := B_a.cell 7
          have e_a_8 : WW.cell? ⟨w.heap.size, 8, none⟩ = some (.slice x_ha x_hn x_hc) := B_a.cell 8
          have e_a_9 : WW.cell? ⟨w.heap.size, 9, none⟩ = some (.int .i64 a.status) := B_a.cell 9
          have e_a_10 : WW.cell? ⟨w.heap.size, 10, none⟩ = some (.int .i64 a.out) := B_a.cell 10
          have e_y_0 : WW.cell? ⟨ob, 0, none⟩ = some (.int .i64 (shfV a (shV a 0) (f0 a))) := B_y.cell 0
          have e_y_1 : WW.cell? ⟨ob, 1, none⟩ = some (.int .i64 (shT a 0)) := B_y.cell 1
          go_wp2
          go_region_held3 (fun W => W.cell? ⟨w.heap.size, 0, none⟩ = some (.int .i64 a.P) ∧ W.cell? ⟨w.heap.size, 1, none⟩ = some (.int .i64 a.party) ∧ W.cell? ⟨w.heap.size, 2, none⟩ = some (.int .i64 a.input) ∧ W.cell? ⟨w.heap.size, 3, none⟩ = some (.int .i64 a.mask) ∧ W.cell? ⟨w.heap.size, 4, none⟩ = some (.int .i64 a.delta) ∧ W.cell? ⟨w.heap.size, 5, none⟩ = some (.slice (some ⟨gs, os, none⟩) 5 x_sc) ∧ W.cell? ⟨w.heap.size, 6, none⟩ = some (.slice x_ka x_kn x_kc) ∧ W.cell? ⟨w.heap.size, 7, none⟩ = some (.int .i64 a.step) ∧ W.cell? ⟨w.heap.size, 8, none⟩ = some (.slice x_ha x_hn x_hc) ∧ W.cell? ⟨w.heap.size, 9, none⟩ = some (.int .i64 a.status) ∧ W.cell? ⟨w.heap.size, 10, none⟩ = some (.int .i64 a.out) ∧ W.cell? ⟨ob, 0, none⟩ = some (.int .i64 (shfV a (shV a 0) (f0 a))) ∧ W.cell? ⟨ob, 1, none⟩ = some (.int .i64 (shT a 0)) ∧ W.cell? ⟨gs, os + 4, none⟩ = some (.int .i64 (shV a 2)) ∧ W.cell? ⟨gs, os + 5, none⟩ = some (.int .i64 (shT a 2)))
            (first | exact ⟨e_a_0, e_a_1, e_a_2, e_a_3, e_a_4, e_a_5, e_a_6, e_a_7, e_a_8, e_a_9, e_a_10, e_y_0, e_y_1, r2, r3⟩ | exact ⟨keepC u e_a_0, keepC u e_a_1, keepC u e_a_2, keepC u e_a_3, keepC u e_a_4, keepC u e_a_5, keepC u e_a_6, keepC u e_a_7, keepC u e_a_8, keepC u e_a_9, keepC u e_a_10, keepC u e_y_0, keepC u e_y_1, keepC u r2, keepC u r3⟩ | exact ⟨keepA _ (keepC u e_a_0), keepA _ (keepC u e_a_1), keepA _ (keepC u e_a_2), keepA _ (keepC u e_a_3), keepA _ (keepC u e_a_4), keepA _ (keepC u e_a_5), keepA _ (keepC u e_a_6), keepA _ (keepC u e_a_7), keepA _ (keepC u e_a_8), keepA _ (keepC u e_a_9), keepA _ (keepC u e_a_10), keepA _ (keepC u e_y_0), keepA _ (keepC u e_y_1), keepA _ (keepC u r2), keepA _ (keepC u r3)⟩ | exact ⟨keepGr g6 Na (keepA _ (keepC u e_a_0)), keepGr g6 Na (keepA _ (keepC u e_a_1)), keepGr g6 Na (keepA _ (keepC u e_a_2)), keepGr g6 Na (keepA _ (keepC u e_a_3)), keepGr g6 Na (keepA _ (keepC u e_a_4)), keepGr g6 Na (keepA _ (keepC u e_a_5)), keepGr g6 Na (keepA _ (keepC u e_a_6)), keepGr g6 Na (keepA _ (keepC u e_a_7)), keepGr g6 Na (keepA _ (keepC u e_a_8)), keepGr g6 Na (keepA _ (keepC u e_a_9)), keepGr g6 Na (keepA _ (keepC u e_a_10)), keepGr g6 No (keepA _ (keepC u e_y_0)), keepGr g6 No (keepA _ (keepC u e_y_1)), keepGr g6 Ng (keepA _ (keepC u r2)), keepGr g6 Ng (keepA _ (keepC u r3))⟩ | go_keep)
            (first | (go_at_call 142; refine (CA0.out _).mono ?_; rintro e wz ⟨rfl, u⟩; have own2 := own'.below ((Below.refl _ _).drew.trans u); have SZ : WW.heap.size ≤ wz.heap.size := u.size) | (refine step_appT (by rfl) _ _ (by rfl) w2'.heap.size c5 0 d5 _ (by rfl) (by first | exact OwnF.alloc own2 _ | exact OwnF.drew (OwnF.alloc own2 _)) _ 1 1 [.int .i64 (seV0 a), .int .i64 (seT0 a)] (by rfl) (by first | exact (OwnC.lit wz wz.heap.size 1 81 2 [.int .i64 (seV0 a), .int .i64 (seT0 a)] (Nat.le_refl _) rfl (by simp [maxLen])).row | exact RowC.drew (OwnC.lit wz wz.heap.size 1 81 2 [.int .i64 (seV0 a), .int .i64 (seT0 a)] (Nat.le_refl _) rfl (by simp [maxLen])).row) (by simp [Value.oneCell']) (by omega) (by have := hb9.size; simp; omega) ?_; intro a6 c6 w6 o6 u6 g6 m6))
          have u9 := (Below.refl _ _).drew.trans u
          have hb8 := hb9.trans (u9.mono hb9.size)
          have hb7 := (hb8.alloc hb8.size _).trans (by first | exact u6 | exact (Below.refl _ _).drew.trans u6)
          clear u6 u u9 hb8 hb9 g6 m6 own' own2
          go_wp2
          go_roundw
          case rel => exact ⟨0 + 1, by omega, by go_num, hb7, a6, c6, rfl, o6⟩
          case measure => simp [intOf]


      · skip

        have own' : OwnF 2 eTagged wr w2'.heap.size c5 1 d5 [seV0 a, seT0 a] := own
        clear own
        rw [show ((1 : Nat) : Int) = 1 from rfl]
        have QF := Lib.hid own'.feet
        have ga := World.block_lt_of_cell? w _ y0
        dsimp only at ga
        have Na : w.heap.size ∉ foot c5 d5 := fun hq => by have := QF.out _ hq; have := S_w1'; have := S_w2'; omega
        have Ng : gs ∉ foot c5 d5 := fun hq => by have := QF.out _ hq; have := SB; omega
        have SR : w2'.heap.size ≤ wr.heap.size := hbel.size
        have p0 := keepC V_wr y2
        have p1 := keepC V_wr y3
        have p2 := keepC V_wr y6
        have p3 := keepC V_wr y7
        have p4 := keepC hbel z1

        go_wp2
        have e_a_0 : wr.cell? ⟨w.heap.size, 0, none⟩ = some (.int .i64 a.P) := B_a.cell 0
        have e_a_1 : wr.cell? ⟨w.heap.size, 1, none⟩ = some (.int .i64 a.party) := B_a.cell 1
        have e_a_2 : wr.cell? ⟨w.heap.size, 2, none⟩ = some (.int .i64 a.input) := B_a.cell 2
        have e_a_3 : wr.cell? ⟨w.heap.size, 3, none⟩ = some (.int .i64 a.mask) := B_a.cell 3
        have e_a_4 : wr.cell? ⟨w.heap.size, 4, none⟩ = some (.int .i64 a.delta) := B_a.cell 4
        have e_a_5 : wr.cell? ⟨w.heap.size, 5, none⟩ = some (.slice (some ⟨gs, os, none⟩) 5 x_sc) := B_a.cell 5
        have e_a_6 : wr.cell? ⟨w.heap.size, 6, none⟩ = some (.slice x_ka x_kn x_kc) := B_a.cell 6
        have e_a_7 : wr.cell? ⟨w.heap.size, 7, none⟩ = some (.int .i64 a.step) := B_a.cell 7
        have e_a_8 : wr.cell? ⟨w.heap.size, 8, none⟩ = some (.slice x_ha x_hn x_hc) := B_a.cell 8
        have e_a_9 : wr.cell? ⟨w.heap.size, 9, none⟩ = some (.int .i64 a.status) := B_a.cell 9
        have e_a_10 : wr.cell? ⟨w.heap.size, 10, none⟩ = some (.int .i64 a.out) := B_a.cell 10
        go_region_held3 (fun W => W.cell? ⟨w.heap.size, 0, none⟩ = some (.int .i64 a.P) ∧ W.cell? ⟨w.heap.size, 1, none⟩ = some (.int .i64 a.party) ∧ W.cell? ⟨w.heap.size, 2, none⟩ = some (.int .i64 a.input) ∧ W.cell? ⟨w.heap.size, 3, none⟩ = some (.int .i64 a.mask) ∧ W.cell? ⟨w.heap.size, 4, none⟩ = some (.int .i64 a.delta) ∧ W.cell? ⟨w.heap.size, 5, none⟩ = some (.slice (some ⟨gs, os, none⟩) 5 x_sc) ∧ W.cell? ⟨w.heap.size, 6, none⟩ = some (.slice x_ka x_kn x_kc) ∧ W.cell? ⟨w.heap.size, 7, none⟩ = some (.int .i64 a.step) ∧ W.cell? ⟨w.heap.size, 8, none⟩ = some (.slice x_ha x_hn x_hc) ∧ W.cell? ⟨w.heap.size, 9, none⟩ = some (.int .i64 a.status) ∧ W.cell? ⟨w.heap.size, 10, none⟩ = some (.int .i64 a.out) ∧ W.cell? ⟨gs, os + 2, none⟩ = some (.int .i64 (shV a 1)) ∧ W.cell? ⟨gs, os + 3, none⟩ = some (.int .i64 (shT a 1)) ∧ W.cell? ⟨gf, of + 1, none⟩ = some (.int .i64 (f1 a)))
          (first | exact ⟨e_a_0, e_a_1, e_a_2, e_a_3, e_a_4, e_a_5, e_a_6, e_a_7, e_a_8, e_a_9, e_a_10, p0, p1, p4⟩ | exact ⟨keepA _ e_a_0, keepA _ e_a_1, keepA _ e_a_2, keepA _ e_a_3, keepA _ e_a_4, keepA _ e_a_5, keepA _ e_a_6, keepA _ e_a_7, keepA _ e_a_8, keepA _ e_a_9, keepA _ e_a_10, keepA _ p0, keepA _ p1, keepA _ p4⟩ | exact ⟨keepC u (keepA _ e_a_0), keepC u (keepA _ e_a_1), keepC u (keepA _ e_a_2), keepC u (keepA _ e_a_3), keepC u (keepA _ e_a_4), keepC u (keepA _ e_a_5), keepC u (keepA _ e_a_6), keepC u (keepA _ e_a_7), keepC u (keepA _ e_a_8), keepC u (keepA _ e_a_9), keepC u (keepA _ e_a_10), keepC u (keepA _ p0), keepC u (keepA _ p1), keepC u (keepA _ p4)⟩ | exact ⟨keepC u e_a_0, keepC u e_a_1, keepC u e_a_2, keepC u e_a_3, keepC u e_a_4, keepC u e_a_5, keepC u e_a_6, keepC u e_a_7, keepC u e_a_8, keepC u e_a_9, keepC u e_a_10, keepC u p0, keepC u p1, keepC u p4⟩ | exact ⟨keepA _ (keepC u e_a_0), keepA _ (keepC u e_a_1), keepA _ (keepC u e_a_2), keepA _ (keepC u e_a_3), keepA _ (keepC u e_a_4), keepA _ (keepC u e_a_5), keepA _ (keepC u e_a_6), keepA _ (keepC u e_a_7), keepA _ (keepC u e_a_8), keepA _ (keepC u e_a_9), keepA _ (keepC u e_a_10), keepA _ (keepC u p0), keepA _ (keepC u p1), keepA _ (keepC u p4)⟩ | exact ⟨keepS e_a_0 _ _ (keepS e_a_0 _ _ (keepC u (keepA _ e_a_0))), keepS e_a_1 _ _ (keepS e_a_1 _ _ (keepC u (keepA _ e_a_1))), keepS e_a_2 _ _ (keepS e_a_2 _ _ (keepC u (keepA _ e_a_2))), keepS e_a_3 _ _ (keepS e_a_3 _ _ (keepC u (keepA _ e_a_3))), keepS e_a_4 _ _ (keepS e_a_4 _ _ (keepC u (keepA _ e_a_4))), keepS e_a_5 _ _ (keepS e_a_5 _ _ (keepC u (keepA _ e_a_5))), keepS e_a_6 _ _ (keepS e_a_6 _ _ (keepC u (keepA _ e_a_6))), keepS e_a_7 _ _ (keepS e_a_7 _ _ (keepC u (keepA _ e_a_7))), keepS e_a_8 _ _ (keepS e_a_8 _ _ (keepC u (keepA _ e_a_8))), keepS e_a_9 _ _ (keepS e_a_9 _ _ (keepC u (keepA _ e_a_9))), keepS e_a_10 _ _ (keepS e_a_10 _ _ (keepC u (keepA _ e_a_10))), keepS p0 _ _ (keepS p0 _ _ (keepC u (keepA _ p0))), keepS p1 _ _ (keepS p1 _ _ (keepC u (keepA _ p1))), keepS p4 _ _ (keepS p4 _ _ (keepC u (keepA _ p4)))⟩ | go_keep)
          (first | (go_at_call 143; refine (CS1.out _).mono ?_; rintro e wz ⟨rfl, u⟩; have BO : Blk wz wr.heap.size 81 #[.int .i64 0, .int .i64 0] := Blk.below (Blk.new wr 81 #[.int .i64 0, .int .i64 0]).drew u; have bo0 : wz.cell? ⟨wr.heap.size, 0, none⟩ = some (.int .i64 0) := BO.cell 0; have bf0 : wz.frozen? ⟨wr.heap.size, 0, none⟩ = false := BO.frozen 0; have bo1 : wz.cell? ⟨wr.heap.size, 1, none⟩ = some (.int .i64 0) := BO.cell 1; have bf1 : wz.frozen? ⟨wr.heap.size, 1, none⟩ = false := BO.frozen 1) | (go_at_call 143; refine (CS1.out _).mono ?_; rintro e wz ⟨rfl, u⟩))
        all_goals first
          | (have u1 : Below wr.heap.size wr wz := ((Below.refl _ wr).alloc (Nat.le_refl _) (.cells #[.int .i64 0, .int .i64 0] 81)).drew.trans (u.mono (by simp))
             have G : Only [wr.heap.size] wz ((wz.setCell ⟨wr.heap.size, 0, none⟩ (.int .i64 (shfV a (shV a 1) (f1 a)))).setCell ⟨wr.heap.size, 1, none⟩ (.int .i64 (shT a 1))) := (((Only.refl [wr.heap.size] wz).setCell ⟨wr.heap.size, 0, none⟩ (.int .i64 (shfV a (shV a 1) (f1 a))) (by simp)).setCell ⟨wr.heap.size, 1, none⟩ (.int .i64 (shT a 1)) (by simp))
             have hV : Below wr.heap.size wr ((wz.setCell ⟨wr.heap.size, 0, none⟩ (.int .i64 (shfV a (shV a 1) (f1 a)))).setCell ⟨wr.heap.size, 1, none⟩ (.int .i64 (shT a 1))) := u1.trans (G.below u1.size (fun q hq => by simp at hq; omega))
             have B_y : Blk ((wz.setCell ⟨wr.heap.size, 0, none⟩ (.int .i64 (shfV a (shV a 1) (f1 a)))).setCell ⟨wr.heap.size, 1, none⟩ (.int .i64 (shT a 1))) wr.heap.size 81 #[.int .i64 (shfV a (shV a 1) (f1 a)), .int .i64 (shT a 1)] := ((BO.set_ 0 (.int .i64 (shfV a (shV a 1) (f1 a)))).set_ 1 (.int .i64 (shT a 1)))
             have hob : wr.heap.size ≤ wr.heap.size := Nat.le_refl _
             clear G u1 u BO bo0 bf0 bo1 bf1
             generalize ((wz.setCell ⟨wr.heap.size, 0, none⟩ (.int .i64 (shfV a (shV a 1) (f1 a)))).setCell ⟨wr.heap.size, 1, none⟩ (.int .i64 (shT a 1))) = WW at *
             generalize hob' : wr.heap.size = ob at B_y ⊢
             rw [hob'] at hob
             replace hob : wr.heap.size ≤ ob := by omega
             clear hob')
          | (have u1 : Below wr.heap.size wr wz := (Below.refl _ wr).drew.trans u
             have hV : Below wr.heap.size wr (wz.alloc (.cells #[.int .i64 (shfV a (shV a 1) (f1 a)), .int .i64 (shT a 1)] 81)) := u1.alloc u1.size _
             have B_y : Blk (wz.alloc (.cells #[.int .i64 (shfV a (shV a 1) (f1 a)), .int .i64 (shT a 1)] 81)) wz.heap.size 81 #[.int .i64 (shfV a (shV a 1) (f1 a)), .int .i64 (shT a 1)] := Blk.new _ _ _
             have hob : wr.heap.size ≤ wz.heap.size := u1.size
             clear u1 u
             generalize wz.alloc (.cells #[.int .i64 (shfV a (shV a 1) (f1 a)), .int .i64 (shT a 1)] 81) = WW at *
             generalize wz.heap.size = ob at *)
        all_goals
          have hb9 := hbel.trans (hV.mono hbel.size)
          have No : ob ∉ foot c5 d5 := fun hq => by have := (QF.out _ hq).2; omega
          have r2 := keepC hV p2
          have r3 := keepC hV p3
          clear p0 p1 p2 p3 p4
          clear e_a_0 e_a_1 e_a_2 e_a_3 e_a_4 e_a_5 e_a_6 e_a_7 e_a_8 e_a_9 e_a_10
          replace B_a := B_a.below hV
          replace own' := own'.below hV
          have S_WW := hV.size
          have V_WW : Below w.heap.size w WW := V_wr.trans (hV.mono V_wr.size)
          clear V_wr
          clear hV

          have e_a_0 : WW.cell? ⟨w.heap.size, 0, none⟩ = some (.int .i64 a.P) := B_a.cell 0
          have e_a_1 : WW.cell? ⟨w.heap.size, 1, none⟩ = some (.int .i64 a.party) := B_a.cell 1
          have e_a_2 : WW.cell? ⟨w.heap.size, 2, none⟩ = some (.int .i64 a.input) := B_a.cell 2
          have e_a_3 : WW.cell? ⟨w.heap.size, 3, none⟩ = some (.int .i64 a.mask) := B_a.cell 3
          have e_a_4 : WW.cell? ⟨w.heap.size, 4, none⟩ = some (.int .i64 a.delta) := B_a.cell 4
          have e_a_5 : WW.cell? ⟨w.heap.size, 5, none⟩ = some (.slice (some ⟨gs, os, none⟩) 5 x_sc) := B_a.cell 5
          have e_a_6 : WW.cell? ⟨w.heap.size, 6, none⟩ = some (.slice x_ka x_kn x_kc) := B_a.cell 6
          have e_a_7 : WW.cell? ⟨w.heap.size, 7, none⟩ = some (.int .i64 a.step) := B_a.cell 7
          have e_a_8 : WW.cell? ⟨w.heap.size, 8, none⟩ = some (.slice x_ha x_hn x_hc) := B_a.cell 8
          have e_a_9 : WW.cell? ⟨w.heap.size, 9, none⟩ = some (.int .i64 a.status) := B_a.cell 9
          have e_a_10 : WW.cell? ⟨w.heap.size, 10, none⟩ = some (.int .i64 a.out) := B_a.cell 10
          have e_y_0 : WW.cell? ⟨ob, 0, none⟩ = some (.int .i64 (shfV a (shV a 1) (f1 a))) := B_y.cell 0
          have e_y_1 : WW.cell? ⟨ob, 1, none⟩ = some (.int .i64 (shT a 1)) := B_y.cell 1
          go_wp2
          go_region_held3 (fun W => W.cell? ⟨w.heap.size, 0, none⟩ = some (.int .i64 a.P) ∧ W.cell? ⟨w.heap.size, 1, none⟩ = some (.int .i64 a.party) ∧ W.cell? ⟨w.heap.size, 2, none⟩ = some (.int .i64 a.input) ∧ W.cell? ⟨w.heap.size, 3, none⟩ = some (.int .i64 a.mask) ∧ W.cell? ⟨w.heap.size, 4, none⟩ = some (.int .i64 a.delta) ∧ W.cell? ⟨w.heap.size, 5, none⟩ = some (.slice (some ⟨gs, os, none⟩) 5 x_sc) ∧ W.cell? ⟨w.heap.size, 6, none⟩ = some (.slice x_ka x_kn x_kc) ∧ W.cell? ⟨w.heap.size, 7, none⟩ = some (.int .i64 a.step) ∧ W.cell? ⟨w.heap.size, 8, none⟩ = some (.slice x_ha x_hn x_hc) ∧ W.cell? ⟨w.heap.size, 9, none⟩ = some (.int .i64 a.status) ∧ W.cell? ⟨w.heap.size, 10, none⟩ = some (.int .i64 a.out) ∧ W.cell? ⟨ob, 0, none⟩ = some (.int .i64 (shfV a (shV a 1) (f1 a))) ∧ W.cell? ⟨ob, 1, none⟩ = some (.int .i64 (shT a 1)) ∧ W.cell? ⟨gs, os + 6, none⟩ = some (.int .i64 (shV a 3)) ∧ W.cell? ⟨gs, os + 7, none⟩ = some (.int .i64 (shT a 3)))
            (first | exact ⟨e_a_0, e_a_1, e_a_2, e_a_3, e_a_4, e_a_5, e_a_6, e_a_7, e_a_8, e_a_9, e_a_10, e_y_0, e_y_1, r2, r3⟩ | exact ⟨keepC u e_a_0, keepC u e_a_1, keepC u e_a_2, keepC u e_a_3, keepC u e_a_4, keepC u e_a_5, keepC u e_a_6, keepC u e_a_7, keepC u e_a_8, keepC u e_a_9, keepC u e_a_10, keepC u e_y_0, keepC u e_y_1, keepC u r2, keepC u r3⟩ | exact ⟨keepA _ (keepC u e_a_0), keepA _ (keepC u e_a_1), keepA _ (keepC u e_a_2), keepA _ (keepC u e_a_3), keepA _ (keepC u e_a_4), keepA _ (keepC u e_a_5), keepA _ (keepC u e_a_6), keepA _ (keepC u e_a_7), keepA _ (keepC u e_a_8), keepA _ (keepC u e_a_9), keepA _ (keepC u e_a_10), keepA _ (keepC u e_y_0), keepA _ (keepC u e_y_1), keepA _ (keepC u r2), keepA _ (keepC u r3)⟩ | exact ⟨keepGr g6 Na (keepA _ (keepC u e_a_0)), keepGr g6 Na (keepA _ (keepC u e_a_1)), keepGr g6 Na (keepA _ (keepC u e_a_2)), keepGr g6 Na (keepA _ (keepC u e_a_3)), keepGr g6 Na (keepA _ (keepC u e_a_4)), keepGr g6 Na (keepA _ (keepC u e_a_5)), keepGr g6 Na (keepA _ (keepC u e_a_6)), keepGr g6 Na (keepA _ (keepC u e_a_7)), keepGr g6 Na (keepA _ (keepC u e_a_8)), keepGr g6 Na (keepA _ (keepC u e_a_9)), keepGr g6 Na (keepA _ (keepC u e_a_10)), keepGr g6 No (keepA _ (keepC u e_y_0)), keepGr g6 No (keepA _ (keepC u e_y_1)), keepGr g6 Ng (keepA _ (keepC u r2)), keepGr g6 Ng (keepA _ (keepC u r3))⟩ | go_keep)
            (first | (go_at_call 142; refine (CA1.out _).mono ?_; rintro e wz ⟨rfl, u⟩; have own2 := own'.below ((Below.refl _ _).drew.trans u); have SZ : WW.heap.size ≤ wz.heap.size := u.size) | (refine step_appT (by rfl) _ _ (by rfl) w2'.heap.size c5 1 d5 _ (by rfl) (by first | exact OwnF.alloc own2 _ | exact OwnF.drew (OwnF.alloc own2 _)) _ 1 1 [.int .i64 (seV1 a), .int .i64 (seT1 a)] (by rfl) (by first | exact (OwnC.lit wz wz.heap.size 1 81 2 [.int .i64 (seV1 a), .int .i64 (seT1 a)] (Nat.le_refl _) rfl (by simp [maxLen])).row | exact RowC.drew (OwnC.lit wz wz.heap.size 1 81 2 [.int .i64 (seV1 a), .int .i64 (seT1 a)] (Nat.le_refl _) rfl (by simp [maxLen])).row) (by simp [Value.oneCell']) (by omega) (by have := hb9.size; simp; omega) ?_; intro a6 c6 w6 o6 u6 g6 m6))
          have u9 := (Below.refl _ _).drew.trans u
          have hb8 := hb9.trans (u9.mono hb9.size)
          have hb7 := (hb8.alloc hb8.size _).trans (by first | exact u6 | exact (Below.refl _ _).drew.trans u6)
          clear u6 u u9 hb8 hb9 g6 m6 own' own2
          go_wp2
          go_roundw
          case rel => exact ⟨1 + 1, by omega, by go_num, hb7, a6, c6, rfl, o6⟩
          case measure => simp [intOf]


    · obtain rfl : k = 2 := by omega
      have own' : OwnF 2 eTagged wr w2'.heap.size c5 2 d5 [seV0 a, seT0 a, seV1 a, seT1 a] := own
      go_wp2
      go_ret
      exact ⟨_, _, rfl, own'.flat, VB.trans (hbel.mono SB)⟩

end Go.Proofs.YtlmdckcohoddnaaDoor
