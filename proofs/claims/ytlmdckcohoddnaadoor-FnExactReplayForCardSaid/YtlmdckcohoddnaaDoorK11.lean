/- Lemmas and walks that the claim's proof rests on, part 11. -/
import Derived.BigRegion
import Derived.StillTailTactics
import Derived.Deep.DeepCutAuto
import Derived.Test.YtlmdckcohoddnaaDoorK1
import Derived.Test.YtlmdckcohoddnaaDoorK2
import Derived.Test.YtlmdckcohoddnaaDoorK9
namespace Go.Proofs.YtlmdckcohoddnaaDoor
open Go.RowKit
set_option maxHeartbeats 8000000 in
set_option maxRecDepth 100000 in
theorem ptFirst_any (a : Pl) (x : PlX) (w : World) (h : PlR w x a.shares a.keys a.heard) (hN : PlN a) (hs : 1 ≤ a.step) :
    Calls Tryd.prog 138 #[.agg #[.int .i64 a.P, .int .i64 a.party, .int .i64 a.input, .int .i64 a.mask, .int .i64 a.delta, .slice x.sa x.sn x.sc, .slice x.ka x.kn x.kc, .int .i64 a.step, .slice x.ha x.hn x.hc, .int .i64 a.status, .int .i64 a.out]] w fun e w' => ∃ b c, e = .returned (.slice b 2 c) ∧ Ints w' b 2 c [f0 a, f1 a] ∧ Below w.heap.size w w' := by
  have i1 := hN.ip
  have m1 := hN.mks
  have hp1 := hN.p1
  have hp2 := hN.p2
  have hlen := hN.hl
  have hpa := hN.party01
  obtain ⟨hhn, g, o, r, hx, e0, inn, hr⟩ := h.hd 0 (by omega)
  have hrl := (hN.hb 0 (by omega)).1
  rw [← hr] at hrl
  have hrl' : r.2.2.length = 1 := hrl
  obtain ⟨g2, o2, hr1, e1⟩ := inn.at 0 (by omega)
  have hv : r.2.2.getD 0 0 = hdI a 0 0 := by rw [hr]; rfl
  rw [hv] at e1
  rw [hr1, hrl'] at e0
  have hnp : (0 : Int) < (x.hn : Int) := by omega
  clear hr hrl hrl' hr1 hv inn hhn hlen h
  simp only [Nat.add_zero] at e0 e1
  obtain ⟨x_sa, x_sn, x_sc, x_ka, x_kn, x_kc, x_ha, x_hn, x_hc⟩ := x
  dsimp only at *
  subst hx
  have F0 : f0 a = if a.party = 0 then mkI a else hdI a 0 0 := rfl
  have F1 : f1 a = if a.party = 0 then hdI a 0 0 else mkI a := rfl
  have MK : mkI a = (a.input - a.mask) % a.P := rfl
  generalize f0 a = ff0 at *
  generalize f1 a = ff1 at *
  generalize mkI a = mk0 at *
  generalize hdI a 0 0 = y0 at *
  clear hN hs
  obtain ⟨P, pa, ip, mk, de, S, K, st0, H, ss, ou⟩ := a
  dsimp only at *
  have t1 : IntKind.i64.wrap (ip - mk) = ip - mk := IntWalk.i64_in _ (by omega)
  replace MK := Lib.hid MK
  rcases hpa with rfl | rfl
  all_goals
    first | rw [if_pos rfl] at F0 F1 | rw [if_neg (by omega)] at F0 F1
    replace F0 := Lib.hid F0
    replace F1 := Lib.hid F1
  · skip
    go_enter Tryd.func138, Tryd.ntmps138
    go_upto_region 1 with fail
    have V_w1'_1 : Below w.heap.size w (w.alloc (.cells #[.int .i64 P, .int .i64 0, .int .i64 ip, .int .i64 mk, .int .i64 de, .slice x_sa x_sn x_sc, .slice x_ka x_kn x_kc, .int .i64 st0, .slice (some ⟨g, o, none⟩) x_hn x_hc, .int .i64 ss, .int .i64 ou] 31)) := ((Below.refl w.heap.size w)).alloc (by have := ((Below.refl w.heap.size w)).size; first | exact this | (simp at *; omega)) _
    have B_a : Blk (w.alloc (.cells #[.int .i64 P, .int .i64 0, .int .i64 ip, .int .i64 mk, .int .i64 de, .slice x_sa x_sn x_sc, .slice x_ka x_kn x_kc, .int .i64 st0, .slice (some ⟨g, o, none⟩) x_hn x_hc, .int .i64 ss, .int .i64 ou] 31)) (w.heap.size) 31 #[.int .i64 P, .int .i64 0, .int .i64 ip, .int .i64 mk, .int .i64 de, .slice x_sa x_sn x_sc, .slice x_ka x_kn x_kc, .int .i64 st0, .slice (some ⟨g, o, none⟩) x_hn x_hc, .int .i64 ss, .int .i64 ou] := by exact Blk.new w 31 #[.int .i64 P, .int .i64 0, .int .i64 ip, .int .i64 mk, .int .i64 de, .slice x_sa x_sn x_sc, .slice x_ka x_kn x_kc, .int .i64 st0, .slice (some ⟨g, o, none⟩) x_hn x_hc, .int .i64 ss, .int .i64 ou]
    have S_w1' : w.heap.size + 1 ≤ (w.alloc (.cells #[.int .i64 P, .int .i64 0, .int .i64 ip, .int .i64 mk, .int .i64 de, .slice x_sa x_sn x_sc, .slice x_ka x_kn x_kc, .int .i64 st0, .slice (some ⟨g, o, none⟩) x_hn x_hc, .int .i64 ss, .int .i64 ou] 31)).heap.size := by first | (simp; done) | (simp; omega) | (simp [World.setCell]; done) | (simp [World.setCell]; omega)
    generalize (w.alloc (.cells #[.int .i64 P, .int .i64 0, .int .i64 ip, .int .i64 mk, .int .i64 de, .slice x_sa x_sn x_sc, .slice x_ka x_kn x_kc, .int .i64 st0, .slice (some ⟨g, o, none⟩) x_hn x_hc, .int .i64 ss, .int .i64 ou] 31)) = w1' at *
    have V_w1' : Below w.heap.size w w1' := V_w1'_1
    clear V_w1'_1
    have e_a_0 : w1'.cell? ⟨w.heap.size, 0, none⟩ = some (.int .i64 P) := B_a.cell 0
    have e_a_1 : w1'.cell? ⟨w.heap.size, 1, none⟩ = some (.int .i64 0) := B_a.cell 1
    have e_a_2 : w1'.cell? ⟨w.heap.size, 2, none⟩ = some (.int .i64 ip) := B_a.cell 2
    have e_a_3 : w1'.cell? ⟨w.heap.size, 3, none⟩ = some (.int .i64 mk) := B_a.cell 3
    have e_a_4 : w1'.cell? ⟨w.heap.size, 4, none⟩ = some (.int .i64 de) := B_a.cell 4
    have e_a_5 : w1'.cell? ⟨w.heap.size, 5, none⟩ = some (.slice x_sa x_sn x_sc) := B_a.cell 5
    have e_a_6 : w1'.cell? ⟨w.heap.size, 6, none⟩ = some (.slice x_ka x_kn x_kc) := B_a.cell 6
    have e_a_7 : w1'.cell? ⟨w.heap.size, 7, none⟩ = some (.int .i64 st0) := B_a.cell 7
    have e_a_8 : w1'.cell? ⟨w.heap.size, 8, none⟩ = some (.slice (some ⟨g, o, none⟩) x_hn x_hc) := B_a.cell 8
    have e_a_9 : w1'.cell? ⟨w.heap.size, 9, none⟩ = some (.int .i64 ss) := B_a.cell 9
    have e_a_10 : w1'.cell? ⟨w.heap.size, 10, none⟩ = some (.int .i64 ou) := B_a.cell 10
    have q0 := keepC V_w1' e0
    have q1 := keepC V_w1' e1
    go_region
    clear e_a_0 e_a_1 e_a_2 e_a_3 e_a_4 e_a_5 e_a_6 e_a_7 e_a_8 e_a_9 e_a_10
    clear q0 q1
    have oL : Own ((w1'.alloc (.cells #[.int .i64 y0, .int .i64 y0] 3)).drew) w1'.heap.size (some ⟨w1'.heap.size, 0, none⟩) 2 2 [y0, y0] := (Own.lit w1' _ [y0, y0] (Nat.le_refl _) (by simp [maxLen])).drew
    have SW := V_w1'.size
    have V_w2'_1 : Below w.heap.size w (w1'.alloc (.cells #[.int .i64 y0, .int .i64 y0] 3)) := (V_w1').alloc (by have := (V_w1').size; first | exact this | (simp at *; omega)) _
    replace B_a := B_a.alloc (.cells #[.int .i64 y0, .int .i64 y0] 3)
    have B_z : Blk (w1'.alloc (.cells #[.int .i64 y0, .int .i64 y0] 3)) (w1'.heap.size) 3 #[.int .i64 y0, .int .i64 y0] := by exact Blk.new w1' 3 #[.int .i64 y0, .int .i64 y0]
    have V_w2'_2 : Below w.heap.size w (w1'.alloc (.cells #[.int .i64 y0, .int .i64 y0] 3)).drew := (V_w2'_1).drew
    replace B_a := B_a.drew
    replace B_z := B_z.drew
    have S_w2' : w1'.heap.size + 1 ≤ (w1'.alloc (.cells #[.int .i64 y0, .int .i64 y0] 3)).drew.heap.size := by first | (simp; done) | (simp; omega) | (simp [World.setCell]; done) | (simp [World.setCell]; omega)
    generalize (w1'.alloc (.cells #[.int .i64 y0, .int .i64 y0] 3)).drew = w2' at *
    clear V_w2'_1
    have V_w2' : Below w.heap.size w w2' := V_w2'_2
    clear V_w1'
    clear V_w2'_2
    generalize w1'.heap.size = gL at *
    clear B_z
    obtain ⟨_, E, _, _, c0, c1, c2⟩ := oL.at 0 (by omega)
    cases E
    have e_a_0 : w2'.cell? ⟨w.heap.size, 0, none⟩ = some (.int .i64 P) := B_a.cell 0
    have e_a_1 : w2'.cell? ⟨w.heap.size, 1, none⟩ = some (.int .i64 0) := B_a.cell 1
    have e_a_2 : w2'.cell? ⟨w.heap.size, 2, none⟩ = some (.int .i64 ip) := B_a.cell 2
    have e_a_3 : w2'.cell? ⟨w.heap.size, 3, none⟩ = some (.int .i64 mk) := B_a.cell 3
    have e_a_4 : w2'.cell? ⟨w.heap.size, 4, none⟩ = some (.int .i64 de) := B_a.cell 4
    have e_a_5 : w2'.cell? ⟨w.heap.size, 5, none⟩ = some (.slice x_sa x_sn x_sc) := B_a.cell 5
    have e_a_6 : w2'.cell? ⟨w.heap.size, 6, none⟩ = some (.slice x_ka x_kn x_kc) := B_a.cell 6
    have e_a_7 : w2'.cell? ⟨w.heap.size, 7, none⟩ = some (.int .i64 st0) := B_a.cell 7
    have e_a_8 : w2'.cell? ⟨w.heap.size, 8, none⟩ = some (.slice (some ⟨g, o, none⟩) x_hn x_hc) := B_a.cell 8
    have e_a_9 : w2'.cell? ⟨w.heap.size, 9, none⟩ = some (.int .i64 ss) := B_a.cell 9
    have e_a_10 : w2'.cell? ⟨w.heap.size, 10, none⟩ = some (.int .i64 ou) := B_a.cell 10
    have SS := oL.drew
    go_wp2
    refine wp_region_still_tail 12 (by kernel_rfl) (by kernel_rfl) ?_
    simp only [List.take_succ_cons, List.take_zero, List.drop_succ_cons, List.drop_zero]
    repeat (first | still_step | still_call (btMod_same _ _ _ (by omega) (by omega)))
    refine wpStill_nil ?_
    change wpList _ _ _ _ _ w2'.drew
    clear e_a_0 e_a_1 e_a_2 e_a_3 e_a_4 e_a_5 e_a_6 e_a_7 e_a_8 e_a_9 e_a_10
    have oD := oL.drew
    clear oL SS
    rw [← MK.out]
    obtain ⟨_, E, _, _, c0, c1, c2⟩ := oD.at 0 (by omega)
    cases E
    have c3 := Lib.hid (c2 mk0)
    clear c2
    go_wp2
    go_ret
    exact ⟨_, _, rfl, by rw [F0.out, F1.out]; exact c3.out.ints, V_w2'.drew.setCell (p := ⟨gL, 0, none⟩) SW _⟩
  · skip
    go_enter Tryd.func138, Tryd.ntmps138
    go_upto_region 1 with fail
    have V_w3'_1 : Below w.heap.size w (w.alloc (.cells #[.int .i64 P, .int .i64 1, .int .i64 ip, .int .i64 mk, .int .i64 de, .slice x_sa x_sn x_sc, .slice x_ka x_kn x_kc, .int .i64 st0, .slice (some ⟨g, o, none⟩) x_hn x_hc, .int .i64 ss, .int .i64 ou] 31)) := ((Below.refl w.heap.size w)).alloc (by have := ((Below.refl w.heap.size w)).size; first | exact this | (simp at *; omega)) _
    have B_a : Blk (w.alloc (.cells #[.int .i64 P, .int .i64 1, .int .i64 ip, .int .i64 mk, .int .i64 de, .slice x_sa x_sn x_sc, .slice x_ka x_kn x_kc, .int .i64 st0, .slice (some ⟨g, o, none⟩) x_hn x_hc, .int .i64 ss, .int .i64 ou] 31)) (w.heap.size) 31 #[.int .i64 P, .int .i64 1, .int .i64 ip, .int .i64 mk, .int .i64 de, .slice x_sa x_sn x_sc, .slice x_ka x_kn x_kc, .int .i64 st0, .slice (some ⟨g, o, none⟩) x_hn x_hc, .int .i64 ss, .int .i64 ou] := by exact Blk.new w 31 #[.int .i64 P, .int .i64 1, .int .i64 ip, .int .i64 mk, .int .i64 de, .slice x_sa x_sn x_sc, .slice x_ka x_kn x_kc, .int .i64 st0, .slice (some ⟨g, o, none⟩) x_hn x_hc, .int .i64 ss, .int .i64 ou]
    have S_w3' : w.heap.size + 1 ≤ (w.alloc (.cells #[.int .i64 P, .int .i64 1, .int .i64 ip, .int .i64 mk, .int .i64 de, .slice x_sa x_sn x_sc, .slice x_ka x_kn x_kc, .int .i64 st0, .slice (some ⟨g, o, none⟩) x_hn x_hc, .int .i64 ss, .int .i64 ou] 31)).heap.size := by first | (simp; done) | (simp; omega) | (simp [World.setCell]; done) | (simp [World.setCell]; omega)
    generalize (w.alloc (.cells #[.int .i64 P, .int .i64 1, .int .i64 ip, .int .i64 mk, .int .i64 de, .slice x_sa x_sn x_sc, .slice x_ka x_kn x_kc, .int .i64 st0, .slice (some ⟨g, o, none⟩) x_hn x_hc, .int .i64 ss, .int .i64 ou] 31)) = w3' at *
    have V_w3' : Below w.heap.size w w3' := V_w3'_1
    clear V_w3'_1
    have e_a_0 : w3'.cell? ⟨w.heap.size, 0, none⟩ = some (.int .i64 P) := B_a.cell 0
    have e_a_1 : w3'.cell? ⟨w.heap.size, 1, none⟩ = some (.int .i64 1) := B_a.cell 1
    have e_a_2 : w3'.cell? ⟨w.heap.size, 2, none⟩ = some (.int .i64 ip) := B_a.cell 2
    have e_a_3 : w3'.cell? ⟨w.heap.size, 3, none⟩ = some (.int .i64 mk) := B_a.cell 3
    have e_a_4 : w3'.cell? ⟨w.heap.size, 4, none⟩ = some (.int .i64 de) := B_a.cell 4
    have e_a_5 : w3'.cell? ⟨w.heap.size, 5, none⟩ = some (.slice x_sa x_sn x_sc) := B_a.cell 5
    have e_a_6 : w3'.cell? ⟨w.heap.size, 6, none⟩ = some (.slice x_ka x_kn x_kc) := B_a.cell 6
    have e_a_7 : w3'.cell? ⟨w.heap.size, 7, none⟩ = some (.int .i64 st0) := B_a.cell 7
    have e_a_8 : w3'.cell? ⟨w.heap.size, 8, none⟩ = some (.slice (some ⟨g, o, none⟩) x_hn x_hc) := B_a.cell 8
    have e_a_9 : w3'.cell? ⟨w.heap.size, 9, none⟩ = some (.int .i64 ss) := B_a.cell 9
    have e_a_10 : w3'.cell? ⟨w.heap.size, 10, none⟩ = some (.int .i64 ou) := B_a.cell 10
    have q0 := keepC V_w3' e0
    have q1 := keepC V_w3' e1
    go_region
    clear e_a_0 e_a_1 e_a_2 e_a_3 e_a_4 e_a_5 e_a_6 e_a_7 e_a_8 e_a_9 e_a_10
    clear q0 q1
    have oL : Own ((w3'.alloc (.cells #[.int .i64 y0, .int .i64 y0] 3)).drew) w3'.heap.size (some ⟨w3'.heap.size, 0, none⟩) 2 2 [y0, y0] := (Own.lit w3' _ [y0, y0] (Nat.le_refl _) (by simp [maxLen])).drew
    have SW := V_w3'.size
    have V_w4'_1 : Below w.heap.size w (w3'.alloc (.cells #[.int .i64 y0, .int .i64 y0] 3)) := (V_w3').alloc (by have := (V_w3').size; first | exact this | (simp at *; omega)) _
    replace B_a := B_a.alloc (.cells #[.int .i64 y0, .int .i64 y0] 3)
    have B_z : Blk (w3'.alloc (.cells #[.int .i64 y0, .int .i64 y0] 3)) (w3'.heap.size) 3 #[.int .i64 y0, .int .i64 y0] := by exact Blk.new w3' 3 #[.int .i64 y0, .int .i64 y0]
    have V_w4'_2 : Below w.heap.size w (w3'.alloc (.cells #[.int .i64 y0, .int .i64 y0] 3)).drew := (V_w4'_1).drew
    replace B_a := B_a.drew
    replace B_z := B_z.drew
    have S_w4' : w3'.heap.size + 1 ≤ (w3'.alloc (.cells #[.int .i64 y0, .int .i64 y0] 3)).drew.heap.size := by first | (simp; done) | (simp; omega) | (simp [World.setCell]; done) | (simp [World.setCell]; omega)
    generalize (w3'.alloc (.cells #[.int .i64 y0, .int .i64 y0] 3)).drew = w4' at *
    clear V_w4'_1
    have V_w4' : Below w.heap.size w w4' := V_w4'_2
    clear V_w3'
    clear V_w4'_2
    generalize w3'.heap.size = gL at *
    clear B_z
    obtain ⟨_, E, _, _, c0, c1, c2⟩ := oL.at 1 (by omega)
    cases E
    have e_a_0 : w4'.cell? ⟨w.heap.size, 0, none⟩ = some (.int .i64 P) := B_a.cell 0
    have e_a_1 : w4'.cell? ⟨w.heap.size, 1, none⟩ = some (.int .i64 1) := B_a.cell 1
    have e_a_2 : w4'.cell? ⟨w.heap.size, 2, none⟩ = some (.int .i64 ip) := B_a.cell 2
    have e_a_3 : w4'.cell? ⟨w.heap.size, 3, none⟩ = some (.int .i64 mk) := B_a.cell 3
    have e_a_4 : w4'.cell? ⟨w.heap.size, 4, none⟩ = some (.int .i64 de) := B_a.cell 4
    have e_a_5 : w4'.cell? ⟨w.heap.size, 5, none⟩ = some (.slice x_sa x_sn x_sc) := B_a.cell 5
    have e_a_6 : w4'.cell? ⟨w.heap.size, 6, none⟩ = some (.slice x_ka x_kn x_kc) := B_a.cell 6
    have e_a_7 : w4'.cell? ⟨w.heap.size, 7, none⟩ = some (.int .i64 st0) := B_a.cell 7
    have e_a_8 : w4'.cell? ⟨w.heap.size, 8, none⟩ = some (.slice (some ⟨g, o, none⟩) x_hn x_hc) := B_a.cell 8
    have e_a_9 : w4'.cell? ⟨w.heap.size, 9, none⟩ = some (.int .i64 ss) := B_a.cell 9
    have e_a_10 : w4'.cell? ⟨w.heap.size, 10, none⟩ = some (.int .i64 ou) := B_a.cell 10
    have SS := oL.drew
    go_wp2
    refine wp_region_still_tail 12 (by kernel_rfl) (by kernel_rfl) ?_
    simp only [List.take_succ_cons, List.take_zero, List.drop_succ_cons, List.drop_zero]
    repeat (first | still_step | still_call (btMod_same _ _ _ (by omega) (by omega)))
    refine wpStill_nil ?_
    change wpList _ _ _ _ _ w4'.drew
    clear e_a_0 e_a_1 e_a_2 e_a_3 e_a_4 e_a_5 e_a_6 e_a_7 e_a_8 e_a_9 e_a_10
    have oD := oL.drew
    clear oL SS
    rw [← MK.out]
    obtain ⟨_, E, _, _, c0, c1, c2⟩ := oD.at 1 (by omega)
    cases E
    have c3 := Lib.hid (c2 mk0)
    clear c2
    go_wp2
    go_ret
    exact ⟨_, _, rfl, by rw [F0.out, F1.out]; exact c3.out.ints, V_w4'.drew.setCell (p := ⟨gL, 1, none⟩) SW _⟩
set_option maxHeartbeats 8000000 in
set_option maxRecDepth 100000 in
theorem ptShift_any (a : Pl) (x : PlX) (v t k : Int) (w : World) (hN : PlN a) (hv : 0 ≤ v ∧ v ≤ 1000) (hk : 0 ≤ k ∧ k ≤ 1000) :
    Calls Tryd.prog 143 #[.agg #[.int .i64 a.P, .int .i64 a.party, .int .i64 a.input, .int .i64 a.mask, .int .i64 a.delta, .slice x.sa x.sn x.sc, .slice x.ka x.kn x.kc, .int .i64 a.step, .slice x.ha x.hn x.hc, .int .i64 a.status, .int .i64 a.out], .agg #[.int .i64 v, .int .i64 t], .int .i64 k] w fun e w' => e = .returned (.agg #[.int .i64 (shfV a v k), .int .i64 t]) ∧ Below w.heap.size w w' := by
  have hp1 := hN.p1
  have hp2 := hN.p2
  have t1 : IntKind.i64.wrap (v + k) = v + k := IntWalk.i64_in _ (by omega)
  have t2 : (v + k).tmod a.P = (v + k) % a.P := Int.tmod_eq_emod_of_nonneg (by omega)
  have t3 : IntKind.i64.wrap ((v + k) % a.P) = (v + k) % a.P := IntWalk.i64_in _ (by have := emod_rng (v + k) a.P (by omega); omega)
  have t7 : (a.P == 0) = false := by simp; omega
  have t8 : (a.P = 0) = False := by simp; omega
  clear hN
  unfold shfV
  by_cases k0 : a.party = 0
  · rw [if_pos k0]
    have k1 : ((a.party == 0) : Bool) = true := by simpa using k0
    clear k0
    go_enter Tryd.func143, Tryd.ntmps143
    go_upto_if 9 with fail
    have V_w1'_1 : Below w.heap.size w (w.alloc (.cells #[.int .i64 a.P, .int .i64 a.party, .int .i64 a.input, .int .i64 a.mask, .int .i64 a.delta, .slice x.sa x.sn x.sc, .slice x.ka x.kn x.kc, .int .i64 a.step, .slice x.ha x.hn x.hc, .int .i64 a.status, .int .i64 a.out] 31)) := ((Below.refl w.heap.size w)).alloc (by have := ((Below.refl w.heap.size w)).size; first | exact this | (simp at *; omega)) _
    have B_a : Blk (w.alloc (.cells #[.int .i64 a.P, .int .i64 a.party, .int .i64 a.input, .int .i64 a.mask, .int .i64 a.delta, .slice x.sa x.sn x.sc, .slice x.ka x.kn x.kc, .int .i64 a.step, .slice x.ha x.hn x.hc, .int .i64 a.status, .int .i64 a.out] 31)) (w.heap.size) 31 #[.int .i64 a.P, .int .i64 a.party, .int .i64 a.input, .int .i64 a.mask, .int .i64 a.delta, .slice x.sa x.sn x.sc, .slice x.ka x.kn x.kc, .int .i64 a.step, .slice x.ha x.hn x.hc, .int .i64 a.status, .int .i64 a.out] := by exact Blk.new w 31 #[.int .i64 a.P, .int .i64 a.party, .int .i64 a.input, .int .i64 a.mask, .int .i64 a.delta, .slice x.sa x.sn x.sc, .slice x.ka x.kn x.kc, .int .i64 a.step, .slice x.ha x.hn x.hc, .int .i64 a.status, .int .i64 a.out]
    have V_w1'_2 : Below w.heap.size w ((w.alloc (.cells #[.int .i64 a.P, .int .i64 a.party, .int .i64 a.input, .int .i64 a.mask, .int .i64 a.delta, .slice x.sa x.sn x.sc, .slice x.ka x.kn x.kc, .int .i64 a.step, .slice x.ha x.hn x.hc, .int .i64 a.status, .int .i64 a.out] 31)).alloc (.cells #[.int .i64 v, .int .i64 t] 81)) := (V_w1'_1).alloc (by have := (V_w1'_1).size; first | exact this | (simp at *; omega)) _
    replace B_a := B_a.alloc (.cells #[.int .i64 v, .int .i64 t] 81)
    have B_y : Blk ((w.alloc (.cells #[.int .i64 a.P, .int .i64 a.party, .int .i64 a.input, .int .i64 a.mask, .int .i64 a.delta, .slice x.sa x.sn x.sc, .slice x.ka x.kn x.kc, .int .i64 a.step, .slice x.ha x.hn x.hc, .int .i64 a.status, .int .i64 a.out] 31)).alloc (.cells #[.int .i64 v, .int .i64 t] 81)) (w.heap.size + 1) 81 #[.int .i64 v, .int .i64 t] := by simpa [World.setCell] using (Blk.new (w.alloc (.cells #[.int .i64 a.P, .int .i64 a.party, .int .i64 a.input, .int .i64 a.mask, .int .i64 a.delta, .slice x.sa x.sn x.sc, .slice x.ka x.kn x.kc, .int .i64 a.step, .slice x.ha x.hn x.hc, .int .i64 a.status, .int .i64 a.out] 31)) 81 #[.int .i64 v, .int .i64 t])
    have V_w1'_3 : Below w.heap.size w (((w.alloc (.cells #[.int .i64 a.P, .int .i64 a.party, .int .i64 a.input, .int .i64 a.mask, .int .i64 a.delta, .slice x.sa x.sn x.sc, .slice x.ka x.kn x.kc, .int .i64 a.step, .slice x.ha x.hn x.hc, .int .i64 a.status, .int .i64 a.out] 31)).alloc (.cells #[.int .i64 v, .int .i64 t] 81)).alloc (.cells #[.int .i64 0, .int .i64 0] 81)) := (V_w1'_2).alloc (by have := (V_w1'_2).size; first | exact this | (simp at *; omega)) _
    replace B_a := B_a.alloc (.cells #[.int .i64 0, .int .i64 0] 81)
    replace B_y := B_y.alloc (.cells #[.int .i64 0, .int .i64 0] 81)
    have B_r : Blk (((w.alloc (.cells #[.int .i64 a.P, .int .i64 a.party, .int .i64 a.input, .int .i64 a.mask, .int .i64 a.delta, .slice x.sa x.sn x.sc, .slice x.ka x.kn x.kc, .int .i64 a.step, .slice x.ha x.hn x.hc, .int .i64 a.status, .int .i64 a.out] 31)).alloc (.cells #[.int .i64 v, .int .i64 t] 81)).alloc (.cells #[.int .i64 0, .int .i64 0] 81)) (w.heap.size + 2) 81 #[.int .i64 0, .int .i64 0] := by simpa [World.setCell] using (Blk.new ((w.alloc (.cells #[.int .i64 a.P, .int .i64 a.party, .int .i64 a.input, .int .i64 a.mask, .int .i64 a.delta, .slice x.sa x.sn x.sc, .slice x.ka x.kn x.kc, .int .i64 a.step, .slice x.ha x.hn x.hc, .int .i64 a.status, .int .i64 a.out] 31)).alloc (.cells #[.int .i64 v, .int .i64 t] 81)) 81 #[.int .i64 0, .int .i64 0])
    have S_w1' : w.heap.size + 3 ≤ (((w.alloc (.cells #[.int .i64 a.P, .int .i64 a.party, .int .i64 a.input, .int .i64 a.mask, .int .i64 a.delta, .slice x.sa x.sn x.sc, .slice x.ka x.kn x.kc, .int .i64 a.step, .slice x.ha x.hn x.hc, .int .i64 a.status, .int .i64 a.out] 31)).alloc (.cells #[.int .i64 v, .int .i64 t] 81)).alloc (.cells #[.int .i64 0, .int .i64 0] 81)).heap.size := by first | (simp; done) | (simp; omega) | (simp [World.setCell]; done) | (simp [World.setCell]; omega)
    generalize (((w.alloc (.cells #[.int .i64 a.P, .int .i64 a.party, .int .i64 a.input, .int .i64 a.mask, .int .i64 a.delta, .slice x.sa x.sn x.sc, .slice x.ka x.kn x.kc, .int .i64 a.step, .slice x.ha x.hn x.hc, .int .i64 a.status, .int .i64 a.out] 31)).alloc (.cells #[.int .i64 v, .int .i64 t] 81)).alloc (.cells #[.int .i64 0, .int .i64 0] 81)) = w1' at *
    clear V_w1'_1 V_w1'_2
    have V_w1' : Below w.heap.size w w1' := V_w1'_3
    clear V_w1'_3
    have e_a_0 : w1'.cell? ⟨w.heap.size, 0, none⟩ = some (.int .i64 a.P) := B_a.cell 0
    have e_a_1 : w1'.cell? ⟨w.heap.size, 1, none⟩ = some (.int .i64 a.party) := B_a.cell 1
    have e_a_2 : w1'.cell? ⟨w.heap.size, 2, none⟩ = some (.int .i64 a.input) := B_a.cell 2
    have e_a_3 : w1'.cell? ⟨w.heap.size, 3, none⟩ = some (.int .i64 a.mask) := B_a.cell 3
    have e_a_4 : w1'.cell? ⟨w.heap.size, 4, none⟩ = some (.int .i64 a.delta) := B_a.cell 4
    have e_a_5 : w1'.cell? ⟨w.heap.size, 5, none⟩ = some (.slice x.sa x.sn x.sc) := B_a.cell 5
    have e_a_6 : w1'.cell? ⟨w.heap.size, 6, none⟩ = some (.slice x.ka x.kn x.kc) := B_a.cell 6
    have e_a_7 : w1'.cell? ⟨w.heap.size, 7, none⟩ = some (.int .i64 a.step) := B_a.cell 7
    have e_a_8 : w1'.cell? ⟨w.heap.size, 8, none⟩ = some (.slice x.ha x.hn x.hc) := B_a.cell 8
    have e_a_9 : w1'.cell? ⟨w.heap.size, 9, none⟩ = some (.int .i64 a.status) := B_a.cell 9
    have e_a_10 : w1'.cell? ⟨w.heap.size, 10, none⟩ = some (.int .i64 a.out) := B_a.cell 10
    have e_y_0 : w1'.cell? ⟨w.heap.size + 1, 0, none⟩ = some (.int .i64 v) := B_y.cell 0
    have f_y_0 : w1'.frozen? ⟨w.heap.size + 1, 0, none⟩ = false := B_y.frozen 0
    have e_y_1 : w1'.cell? ⟨w.heap.size + 1, 1, none⟩ = some (.int .i64 t) := B_y.cell 1
    have f_y_1 : w1'.frozen? ⟨w.heap.size + 1, 1, none⟩ = false := B_y.frozen 1
    have e_r_0 : w1'.cell? ⟨w.heap.size + 2, 0, none⟩ = some (.int .i64 0) := B_r.cell 0
    have f_r_0 : w1'.frozen? ⟨w.heap.size + 2, 0, none⟩ = false := B_r.frozen 0
    have e_r_1 : w1'.cell? ⟨w.heap.size + 2, 1, none⟩ = some (.int .i64 0) := B_r.cell 1
    have f_r_1 : w1'.frozen? ⟨w.heap.size + 2, 1, none⟩ = false := B_r.frozen 1
    go_wp2
    have V9 := ((V_w1'.setCell (p := ⟨w.heap.size + 1, 0, none⟩) (by simp) (.int .i64 ((v + k) % a.P))).setCell (p := ⟨w.heap.size + 2, 0, none⟩) (by simp) (.int .i64 ((v + k) % a.P))).setCell (p := ⟨w.heap.size + 2, 1, none⟩) (by simp) (.int .i64 t)
    exact bodyPost_ret (v := .agg #[.int .i64 ((v + k) % a.P), .int .i64 t]) (by simp [results, Tryd.results143, go_sem, e_r_0, e_r_1]) rfl ⟨rfl, V9⟩
  · rw [if_neg k0]
    have k1 : ((a.party == 0) : Bool) = false := by simpa using k0
    clear k0
    go_enter Tryd.func143, Tryd.ntmps143
    go_upto_if 9 with fail
    have V_w2'_1 : Below w.heap.size w (w.alloc (.cells #[.int .i64 a.P, .int .i64 a.party, .int .i64 a.input, .int .i64 a.mask, .int .i64 a.delta, .slice x.sa x.sn x.sc, .slice x.ka x.kn x.kc, .int .i64 a.step, .slice x.ha x.hn x.hc, .int .i64 a.status, .int .i64 a.out] 31)) := ((Below.refl w.heap.size w)).alloc (by have := ((Below.refl w.heap.size w)).size; first | exact this | (simp at *; omega)) _
    have B_a : Blk (w.alloc (.cells #[.int .i64 a.P, .int .i64 a.party, .int .i64 a.input, .int .i64 a.mask, .int .i64 a.delta, .slice x.sa x.sn x.sc, .slice x.ka x.kn x.kc, .int .i64 a.step, .slice x.ha x.hn x.hc, .int .i64 a.status, .int .i64 a.out] 31)) (w.heap.size) 31 #[.int .i64 a.P, .int .i64 a.party, .int .i64 a.input, .int .i64 a.mask, .int .i64 a.delta, .slice x.sa x.sn x.sc, .slice x.ka x.kn x.kc, .int .i64 a.step, .slice x.ha x.hn x.hc, .int .i64 a.status, .int .i64 a.out] := by exact Blk.new w 31 #[.int .i64 a.P, .int .i64 a.party, .int .i64 a.input, .int .i64 a.mask, .int .i64 a.delta, .slice x.sa x.sn x.sc, .slice x.ka x.kn x.kc, .int .i64 a.step, .slice x.ha x.hn x.hc, .int .i64 a.status, .int .i64 a.out]
    have V_w2'_2 : Below w.heap.size w ((w.alloc (.cells #[.int .i64 a.P, .int .i64 a.party, .int .i64 a.input, .int .i64 a.mask, .int .i64 a.delta, .slice x.sa x.sn x.sc, .slice x.ka x.kn x.kc, .int .i64 a.step, .slice x.ha x.hn x.hc, .int .i64 a.status, .int .i64 a.out] 31)).alloc (.cells #[.int .i64 v, .int .i64 t] 81)) := (V_w2'_1).alloc (by have := (V_w2'_1).size; first | exact this | (simp at *; omega)) _
    replace B_a := B_a.alloc (.cells #[.int .i64 v, .int .i64 t] 81)
    have B_y : Blk ((w.alloc (.cells #[.int .i64 a.P, .int .i64 a.party, .int .i64 a.input, .int .i64 a.mask, .int .i64 a.delta, .slice x.sa x.sn x.sc, .slice x.ka x.kn x.kc, .int .i64 a.step, .slice x.ha x.hn x.hc, .int .i64 a.status, .int .i64 a.out] 31)).alloc (.cells #[.int .i64 v, .int .i64 t] 81)) (w.heap.size + 1) 81 #[.int .i64 v, .int .i64 t] := by simpa [World.setCell] using (Blk.new (w.alloc (.cells #[.int .i64 a.P, .int .i64 a.party, .int .i64 a.input, .int .i64 a.mask, .int .i64 a.delta, .slice x.sa x.sn x.sc, .slice x.ka x.kn x.kc, .int .i64 a.step, .slice x.ha x.hn x.hc, .int .i64 a.status, .int .i64 a.out] 31)) 81 #[.int .i64 v, .int .i64 t])
    have V_w2'_3 : Below w.heap.size w (((w.alloc (.cells #[.int .i64 a.P, .int .i64 a.party, .int .i64 a.input, .int .i64 a.mask, .int .i64 a.delta, .slice x.sa x.sn x.sc, .slice x.ka x.kn x.kc, .int .i64 a.step, .slice x.ha x.hn x.hc, .int .i64 a.status, .int .i64 a.out] 31)).alloc (.cells #[.int .i64 v, .int .i64 t] 81)).alloc (.cells #[.int .i64 0, .int .i64 0] 81)) := (V_w2'_2).alloc (by have := (V_w2'_2).size; first | exact this | (simp at *; omega)) _
    replace B_a := B_a.alloc (.cells #[.int .i64 0, .int .i64 0] 81)
    replace B_y := B_y.alloc (.cells #[.int .i64 0, .int .i64 0] 81)
    have B_r : Blk (((w.alloc (.cells #[.int .i64 a.P, .int .i64 a.party, .int .i64 a.input, .int .i64 a.mask, .int .i64 a.delta, .slice x.sa x.sn x.sc, .slice x.ka x.kn x.kc, .int .i64 a.step, .slice x.ha x.hn x.hc, .int .i64 a.status, .int .i64 a.out] 31)).alloc (.cells #[.int .i64 v, .int .i64 t] 81)).alloc (.cells #[.int .i64 0, .int .i64 0] 81)) (w.heap.size + 2) 81 #[.int .i64 0, .int .i64 0] := by simpa [World.setCell] using (Blk.new ((w.alloc (.cells #[.int .i64 a.P, .int .i64 a.party, .int .i64 a.input, .int .i64 a.mask, .int .i64 a.delta, .slice x.sa x.sn x.sc, .slice x.ka x.kn x.kc, .int .i64 a.step, .slice x.ha x.hn x.hc, .int .i64 a.status, .int .i64 a.out] 31)).alloc (.cells #[.int .i64 v, .int .i64 t] 81)) 81 #[.int .i64 0, .int .i64 0])
    have S_w2' : w.heap.size + 3 ≤ (((w.alloc (.cells #[.int .i64 a.P, .int .i64 a.party, .int .i64 a.input, .int .i64 a.mask, .int .i64 a.delta, .slice x.sa x.sn x.sc, .slice x.ka x.kn x.kc, .int .i64 a.step, .slice x.ha x.hn x.hc, .int .i64 a.status, .int .i64 a.out] 31)).alloc (.cells #[.int .i64 v, .int .i64 t] 81)).alloc (.cells #[.int .i64 0, .int .i64 0] 81)).heap.size := by first | (simp; done) | (simp; omega) | (simp [World.setCell]; done) | (simp [World.setCell]; omega)
    generalize (((w.alloc (.cells #[.int .i64 a.P, .int .i64 a.party, .int .i64 a.input, .int .i64 a.mask, .int .i64 a.delta, .slice x.sa x.sn x.sc, .slice x.ka x.kn x.kc, .int .i64 a.step, .slice x.ha x.hn x.hc, .int .i64 a.status, .int .i64 a.out] 31)).alloc (.cells #[.int .i64 v, .int .i64 t] 81)).alloc (.cells #[.int .i64 0, .int .i64 0] 81)) = w2' at *
    clear V_w2'_1 V_w2'_2
    have V_w2' : Below w.heap.size w w2' := V_w2'_3
    clear V_w2'_3
    have e_a_0 : w2'.cell? ⟨w.heap.size, 0, none⟩ = some (.int .i64 a.P) := B_a.cell 0
    have e_a_1 : w2'.cell? ⟨w.heap.size, 1, none⟩ = some (.int .i64 a.party) := B_a.cell 1
    have e_a_2 : w2'.cell? ⟨w.heap.size, 2, none⟩ = some (.int .i64 a.input) := B_a.cell 2
    have e_a_3 : w2'.cell? ⟨w.heap.size, 3, none⟩ = some (.int .i64 a.mask) := B_a.cell 3
    have e_a_4 : w2'.cell? ⟨w.heap.size, 4, none⟩ = some (.int .i64 a.delta) := B_a.cell 4
    have e_a_5 : w2'.cell? ⟨w.heap.size, 5, none⟩ = some (.slice x.sa x.sn x.sc) := B_a.cell 5
    have e_a_6 : w2'.cell? ⟨w.heap.size, 6, none⟩ = some (.slice x.ka x.kn x.kc) := B_a.cell 6
    have e_a_7 : w2'.cell? ⟨w.heap.size, 7, none⟩ = some (.int .i64 a.step) := B_a.cell 7
    have e_a_8 : w2'.cell? ⟨w.heap.size, 8, none⟩ = some (.slice x.ha x.hn x.hc) := B_a.cell 8
    have e_a_9 : w2'.cell? ⟨w.heap.size, 9, none⟩ = some (.int .i64 a.status) := B_a.cell 9
    have e_a_10 : w2'.cell? ⟨w.heap.size, 10, none⟩ = some (.int .i64 a.out) := B_a.cell 10
    have e_y_0 : w2'.cell? ⟨w.heap.size + 1, 0, none⟩ = some (.int .i64 v) := B_y.cell 0
    have f_y_0 : w2'.frozen? ⟨w.heap.size + 1, 0, none⟩ = false := B_y.frozen 0
    have e_y_1 : w2'.cell? ⟨w.heap.size + 1, 1, none⟩ = some (.int .i64 t) := B_y.cell 1
    have f_y_1 : w2'.frozen? ⟨w.heap.size + 1, 1, none⟩ = false := B_y.frozen 1
    have e_r_0 : w2'.cell? ⟨w.heap.size + 2, 0, none⟩ = some (.int .i64 0) := B_r.cell 0
    have f_r_0 : w2'.frozen? ⟨w.heap.size + 2, 0, none⟩ = false := B_r.frozen 0
    have e_r_1 : w2'.cell? ⟨w.heap.size + 2, 1, none⟩ = some (.int .i64 0) := B_r.cell 1
    have f_r_1 : w2'.frozen? ⟨w.heap.size + 2, 1, none⟩ = false := B_r.frozen 1
    go_wp2
    have V9 := (V_w2'.setCell (p := ⟨w.heap.size + 2, 0, none⟩) (by simp) (.int .i64 v)).setCell (p := ⟨w.heap.size + 2, 1, none⟩) (by simp) (.int .i64 t)
    exact bodyPost_ret (v := .agg #[.int .i64 v, .int .i64 t]) (by simp [results, Tryd.results143, go_sem, e_r_0, e_r_1]) rfl ⟨rfl, V9⟩
end Go.Proofs.YtlmdckcohoddnaaDoor
namespace Go.Proofs.YtlmdckcohoddnaaDoor
open Go.RowKit
set_option maxHeartbeats 4000000 in
set_option maxRecDepth 100000 in
theorem toMessage_any (s0 : Int) (s1 : Int) (a2 : Option Addr) (n2 c2 : Nat) (l2 : List Int) (w : World) (h2 : Ints w a2 n2 c2 l2) (hs2 : n2 ≤ 1048576) :
    Calls Tryd.prog 38 #[.agg #[.int .i64 s0, .int .i64 s1, .slice a2 n2 c2]] w fun e w' => ∃ b2 d2, e = .returned (.agg #[.int .i64 s0, .int .i64 s1, .slice b2 n2 d2]) ∧ Own w' w.heap.size b2 n2 d2 l2 ∧ Below w.heap.size w w' := by
  go_enter Tryd.func38, Tryd.ntmps38
  go_wp2_with fail
  have V0 : Below w.heap.size w (((w.alloc (.cells #[.int .i64 s0, .int .i64 s1, .slice a2 n2 c2] 53)).alloc (.cells #[.int .i64 0, .int .i64 0, .slice none 0 0] 44)).alloc (.cells #[.int .i64 s0, .int .i64 s1, .slice none 0 0] 44)) := ((((Below.refl _ w).alloc (Nat.le_refl w.heap.size) _).alloc (by simp) _).alloc (by simp; omega) _)
  have P0 : Blk (((w.alloc (.cells #[.int .i64 s0, .int .i64 s1, .slice a2 n2 c2] 53)).alloc (.cells #[.int .i64 0, .int .i64 0, .slice none 0 0] 44)).alloc (.cells #[.int .i64 s0, .int .i64 s1, .slice none 0 0] 44)) w.heap.size 53 #[.int .i64 s0, .int .i64 s1, .slice a2 n2 c2] := ((Blk.new w _ _).alloc _).alloc _
  have R0 : Blk (((w.alloc (.cells #[.int .i64 s0, .int .i64 s1, .slice a2 n2 c2] 53)).alloc (.cells #[.int .i64 0, .int .i64 0, .slice none 0 0] 44)).alloc (.cells #[.int .i64 s0, .int .i64 s1, .slice none 0 0] 44)) (w.heap.size + 1) 44 #[.int .i64 0, .int .i64 0, .slice none 0 0] := by simpa using ((Blk.new (w.alloc _) 44 #[.int .i64 0, .int .i64 0, .slice none 0 0]).alloc _ : Blk (((w.alloc (.cells #[.int .i64 s0, .int .i64 s1, .slice a2 n2 c2] 53)).alloc (.cells #[.int .i64 0, .int .i64 0, .slice none 0 0] 44)).alloc (.cells #[.int .i64 s0, .int .i64 s1, .slice none 0 0] 44)) _ _ _)
  have O0 : Blk (((w.alloc (.cells #[.int .i64 s0, .int .i64 s1, .slice a2 n2 c2] 53)).alloc (.cells #[.int .i64 0, .int .i64 0, .slice none 0 0] 44)).alloc (.cells #[.int .i64 s0, .int .i64 s1, .slice none 0 0] 44)) (w.heap.size + 2) 44 #[.int .i64 s0, .int .i64 s1, .slice none 0 0] := by simpa using (Blk.new ((w.alloc _).alloc _) 44 #[.int .i64 s0, .int .i64 s1, .slice none 0 0] : Blk (((w.alloc (.cells #[.int .i64 s0, .int .i64 s1, .slice a2 n2 c2] 53)).alloc (.cells #[.int .i64 0, .int .i64 0, .slice none 0 0] 44)).alloc (.cells #[.int .i64 s0, .int .i64 s1, .slice none 0 0] 44)) _ _ _)
  have S0 : w.heap.size + 3 ≤ (((w.alloc (.cells #[.int .i64 s0, .int .i64 s1, .slice a2 n2 c2] 53)).alloc (.cells #[.int .i64 0, .int .i64 0, .slice none 0 0] 44)).alloc (.cells #[.int .i64 s0, .int .i64 s1, .slice none 0 0] 44)).heap.size := by simp
  generalize (((w.alloc (.cells #[.int .i64 s0, .int .i64 s1, .slice a2 n2 c2] 53)).alloc (.cells #[.int .i64 0, .int .i64 0, .slice none 0 0] 44)).alloc (.cells #[.int .i64 s0, .int .i64 s1, .slice none 0 0] 44)) = w0 at *
  refine (toIntS_any _ _ _ l2 _ (h2.below V0) hs2).mono ?_; rintro e w1 ⟨b2, d2, rfl, o2, u2⟩
  have Q2 := Lib.hid o2.feet
  have V1 := V0.trans (u2.mono V0.size)
  have S1 : w.heap.size + 3 ≤ w1.heap.size := Nat.le_trans S0 u2.size
  have T1 := u2.size
  have P1 := P0.below u2
  have R1 := R0.below u2
  have O1 := O0.below u2
  clear u2 V0 P0 R0 O0
  have x0 : w1.cell? ⟨w.heap.size + 2, 0, none⟩ = some (.int .i64 s0) := O1.cell 0
  have f0 : w1.frozen? ⟨w.heap.size + 2, 0, none⟩ = false := O1.frozen 0
  have x1 : w1.cell? ⟨w.heap.size + 2, 1, none⟩ = some (.int .i64 s1) := O1.cell 1
  have f1 : w1.frozen? ⟨w.heap.size + 2, 1, none⟩ = false := O1.frozen 1
  have x2 : w1.cell? ⟨w.heap.size + 2, 2, none⟩ = some (.slice none 0 0) := O1.cell 2
  have f2 : w1.frozen? ⟨w.heap.size + 2, 2, none⟩ = false := O1.frozen 2
  have r0 : w1.cell? ⟨w.heap.size + 1, 0, none⟩ = some (.int .i64 0) := R1.cell 0
  have q0 : w1.frozen? ⟨w.heap.size + 1, 0, none⟩ = false := R1.frozen 0
  have r1 : w1.cell? ⟨w.heap.size + 1, 1, none⟩ = some (.int .i64 0) := R1.cell 1
  have q1 : w1.frozen? ⟨w.heap.size + 1, 1, none⟩ = false := R1.frozen 1
  have r2 : w1.cell? ⟨w.heap.size + 1, 2, none⟩ = some (.slice none 0 0) := R1.cell 2
  have q2 : w1.frozen? ⟨w.heap.size + 1, 2, none⟩ = false := R1.frozen 2
  go_wp2
  have G := (((((Only.refl [w.heap.size + 2, w.heap.size + 1] w1).setCell ⟨w.heap.size + 2, 2, none⟩ (.slice b2 n2 d2) (by simp)).setCell ⟨w.heap.size + 1, 0, none⟩ (.int .i64 s0) (by simp)).setCell ⟨w.heap.size + 1, 1, none⟩ (.int .i64 s1) (by simp)).setCell ⟨w.heap.size + 1, 2, none⟩ (.slice b2 n2 d2) (by simp))
  exact bodyPost_ret (v := .agg #[.int .i64 s0, .int .i64 s1, .slice b2 n2 d2]) (by simp [results, Tryd.results38, go_sem, r0, r1, r2]) rfl ⟨_, _, rfl, (o2.only G (fun k hk hk' => by have := Q2.out k hk; simp at hk'; omega)).lower (by omega), V1.trans (G.below V1.size (by simp))⟩
set_option maxHeartbeats 4000000 in
set_option maxRecDepth 100000 in
theorem szMessage_yes (s0 : Int) (s1 : Int) (a2 : Option Addr) (n2 c2 : Nat) (left : Int) (w : World) (hn2 : (n2 : Int) ≤ 9223372036854775807) (h0 : left ≤ 1048576) (h1 : (n2 : Int) ≤ left) :
    Calls Tryd.prog 36 #[.agg #[.int .i64 s0, .int .i64 s1, .slice a2 n2 c2], .int .i64 left] w fun e w' => e = .returned (.int .i64 (left - n2)) ∧ Below w.heap.size w w' := by
  go_enter Tryd.func36, Tryd.ntmps36
  go_wp2_with fail
  have V0 : Below w.heap.size w (w.alloc (.cells #[.int .i64 s0, .int .i64 s1, .slice a2 n2 c2] 53)) := (Below.refl _ w).alloc (Nat.le_refl w.heap.size) _
  refine (szIntS_yes _ _ _ (left) _ (by omega) (by omega) (by omega)).mono ?_; rintro e w' ⟨rfl, rfl⟩
  go_wp2
  go_ret
  exact ⟨rfl, V0⟩
set_option maxHeartbeats 4000000 in
set_option maxRecDepth 100000 in
theorem szMessage_no (s0 : Int) (s1 : Int) (a2 : Option Addr) (n2 c2 : Nat) (left : Int) (w : World) (hn2 : (n2 : Int) ≤ 9223372036854775807) (hz : 0 ≤ left) (h0 : left ≤ 1048576) (h1 : ¬ (n2 : Int) ≤ left) :
    Calls Tryd.prog 36 #[.agg #[.int .i64 s0, .int .i64 s1, .slice a2 n2 c2], .int .i64 left] w fun e w' => e = .returned (.int .i64 (-1)) ∧ Below w.heap.size w w' := by
  go_enter Tryd.func36, Tryd.ntmps36
  go_wp2_with fail
  have V0 : Below w.heap.size w (w.alloc (.cells #[.int .i64 s0, .int .i64 s1, .slice a2 n2 c2] 53)) := (Below.refl _ w).alloc (Nat.le_refl w.heap.size) _
  refine (szIntS_no _ _ _ (left) _ (by omega) (by omega) (by omega)).mono ?_; rintro e w' ⟨rfl, rfl⟩
  go_wp2
  go_ret
  exact ⟨rfl, V0⟩
set_option maxHeartbeats 4000000 in
set_option maxRecDepth 100000 in
theorem eqMessage_same (s0 : Int) (s1 : Int) (a2 : Option Addr) (n2 c2 : Nat) (b2 : Option Addr) (m2 d2 : Nat) (l2 : List Int) (w : World) (h2 : Ints w a2 n2 c2 l2) (g2 : Ints w b2 m2 d2 l2) :
    Calls Tryd.prog 28 #[.agg #[.int .i64 s0, .int .i64 s1, .slice a2 n2 c2], .agg #[.int .i64 s0, .int .i64 s1, .slice b2 m2 d2]] w fun e w' => e = .returned (.bool true) ∧ Below w.heap.size w w' := by
  have z0 : ((s0 != s0) : Bool) = false := by simp
  have z1 : ((s1 != s1) : Bool) = false := by simp
  go_enter Tryd.func28, Tryd.ntmps28
  go_wp2_with fail
  have V0 : Below w.heap.size w ((w.alloc (.cells #[.int .i64 s0, .int .i64 s1, .slice a2 n2 c2] 44)).alloc (.cells #[.int .i64 s0, .int .i64 s1, .slice b2 m2 d2] 44)) := ((Below.refl _ w).alloc (Nat.le_refl w.heap.size) _).alloc (by simp) _
  have P0 : Blk ((w.alloc (.cells #[.int .i64 s0, .int .i64 s1, .slice a2 n2 c2] 44)).alloc (.cells #[.int .i64 s0, .int .i64 s1, .slice b2 m2 d2] 44)) w.heap.size 44 #[.int .i64 s0, .int .i64 s1, .slice a2 n2 c2] := (Blk.new w _ _).alloc _
  have R0 : Blk ((w.alloc (.cells #[.int .i64 s0, .int .i64 s1, .slice a2 n2 c2] 44)).alloc (.cells #[.int .i64 s0, .int .i64 s1, .slice b2 m2 d2] 44)) (w.heap.size + 1) 44 #[.int .i64 s0, .int .i64 s1, .slice b2 m2 d2] := by simpa using (Blk.new (w.alloc _) 44 #[.int .i64 s0, .int .i64 s1, .slice b2 m2 d2] : Blk ((w.alloc (.cells #[.int .i64 s0, .int .i64 s1, .slice a2 n2 c2] 44)).alloc (.cells #[.int .i64 s0, .int .i64 s1, .slice b2 m2 d2] 44)) _ _ _)
  generalize ((w.alloc (.cells #[.int .i64 s0, .int .i64 s1, .slice a2 n2 c2] 44)).alloc (.cells #[.int .i64 s0, .int .i64 s1, .slice b2 m2 d2] 44)) = w0 at *
  refine (eqIntS_b _ _ _ _ _ _ l2 _ (h2.below V0) (g2.below V0)).mono ?_; rintro e w1 ⟨rfl, u0⟩
  have V1 := V0.trans (u0.mono V0.size)
  have P1 := P0.below u0
  have R1 := R0.below u0
  clear u0 V0 P0 R0
  go_wp2
  go_ret
  exact ⟨rfl, V1⟩
set_option maxHeartbeats 4000000 in
set_option maxRecDepth 100000 in
theorem markMessage_any (s0 : Int) (s1 : Int) (a2 : Option Addr) (n2 c2 : Nat) (l2 : List Int) (B2 : Nat) (k0 : Int) (w : World) (h2 : Own w B2 a2 n2 c2 l2)  (hk : 0 ≤ k0) (hk2 : k0 + (n2 : Int) ≤ 4000000000000000000) :
    Calls Tryd.prog 29 #[.agg #[.int .i64 s0, .int .i64 s1, .slice a2 n2 c2], .int .i64 k0] w fun e w' => e = .returned (.int .i64 (k0 + (n2 : Int))) ∧ (∃ l, Own w' B2 a2 n2 c2 l ∧ UpFrom (k0) l) ∧ Only (foot a2 c2) w w' := by
  have Q2 := Lib.hid h2.feet
  go_enter Tryd.func29, Tryd.ntmps29
  go_wp2_with fail
  have G0 : Only (foot a2 c2) w (w.alloc (.cells #[.int .i64 s0, .int .i64 s1, .slice a2 n2 c2] 44)) := (Only.refl _ _).alloc _
  have P0 : Blk (w.alloc (.cells #[.int .i64 s0, .int .i64 s1, .slice a2 n2 c2] 44)) w.heap.size 44 #[.int .i64 s0, .int .i64 s1, .slice a2 n2 c2] := Blk.new w _ _
  have h2 := h2.below ((Below.refl w.heap.size w).alloc (Nat.le_refl _) (.cells #[.int .i64 s0, .int .i64 s1, .slice a2 n2 c2] 44))
  generalize (w.alloc (.cells #[.int .i64 s0, .int .i64 s1, .slice a2 n2 c2] 44)) = w0 at *
  refine (markIntS_o _ _ _ _ _ (k0) _ h2 (by omega) (by omega)).mono ?_; rintro e w1 ⟨rfl, ⟨L2, h2, U2⟩, u0⟩
  replace U2 := Lib.hid U2
  have P1 := P0.only u0 (fun hm => by have := Q2.out _ hm; omega)
  have G1 := G0.trans (u0.more (fun k hk => by simp [hk]))
  clear u0 P0 G0
  go_wp2
  go_ret
  exact ⟨rfl, ⟨_, h2, U2.out⟩, G1⟩
end Go.Proofs.YtlmdckcohoddnaaDoor
namespace Go.Proofs.YtlmdckcohoddnaaDoor
open Go.RowKit
end Go.Proofs.YtlmdckcohoddnaaDoor
namespace Go.Proofs.YtlmdckcohoddnaaDoor
open Go.RowKit
theorem Own.lit2 (w : World) (b : Nat) (x y : Int) (hb : b ≤ w.heap.size) : Own (w.alloc (.cells #[.int .i64 x, .int .i64 y] 3)) b (some ⟨w.heap.size, 0, none⟩) 2 2 [x, y] := Own.lit w b [x, y] hb (by simp [maxLen])
end Go.Proofs.YtlmdckcohoddnaaDoor
namespace Go.Proofs.YtlmdckcohoddnaaDoor
open Go.RowKit
theorem cellFar {w : World} {p q : Addr} {u v : Value} (h : w.cell? q = some v) (hne : q.block ≠ p.block) : (w.setCell p u).cell? q = some v := by
  rw [World.cell?_setCell_other w p q u (fun e => hne (by rw [e]))]; exact h
end Go.Proofs.YtlmdckcohoddnaaDoor
