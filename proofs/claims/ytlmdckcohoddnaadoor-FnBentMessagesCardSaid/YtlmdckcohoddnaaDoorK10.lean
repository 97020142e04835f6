/- Lemmas and walks that the claim's proof rests on, part 10. -/
import Derived.Test.YtlmdckcohoddnaaDoorK9
namespace Go.Proofs.YtlmdckcohoddnaaDoor
open Go.RowKit
set_option maxHeartbeats 16000000 in
set_option maxRecDepth 100000 in
theorem take_end (a : Pl) (x : PlX) (fr st : Int) (b : Option Addr) (n c : Nat) (body : List Int) (w : World) (h : PlR w x a.shares a.keys a.heard) (hM : Ints w b n c body) (hT : Tbl w) (hN : PlN a) (hs : a.step ≤ 2) (hacc : accB a fr st body = true) (h2 : a.step = 2) :
    Calls Tryd.prog 92 #[.agg #[.int .i64 a.P, .int .i64 a.party, .int .i64 a.input, .int .i64 a.mask, .int .i64 a.delta, .slice x.sa x.sn x.sc, .slice x.ka x.kn x.kc, .int .i64 a.step, .slice x.ha x.hn x.hc, .int .i64 a.status, .int .i64 a.out], .agg #[.int .i64 fr, .int .i64 st, .slice b n c]] w fun e w' => ∃ y F, e = .returned (.agg #[.int .i64 a.P, .int .i64 a.party, .int .i64 a.input, .int .i64 a.mask, .int .i64 a.delta, .slice y.sa y.sn y.sc, .slice y.ka y.kn y.kc, .int .i64 (a.step + 1), .slice y.ha y.hn y.hc, .int .i64 1, .int .i64 ((thV a + body.getD 0 0) % a.P)]) ∧ PlO w' w.heap.size y a.shares a.keys (a.heard ++ [body]) F ∧ Below w.heap.size w w' := by
  have hnb := hM.len
  subst hnb
  obtain ⟨hbl, hbr⟩ := acc_parts hacc
  have CA := Lib.hid (fun (W : World) (h2 : PlR W x a.shares a.keys a.heard) (h3 : Ints W b body.length c body) (h4 : Tbl W) => accepts_any a x fr st b body.length c body W h2 h3 h4 hN hs)
  rw [hacc] at CA
  have CP := Lib.hid (fun (W : World) (h2 : PlR W x a.shares a.keys a.heard) => copyPlayer_any a x W h2 hN)
  have LH := Lib.hid h
  have LM := Lib.hid hM
  have LX := Lib.hid hT
  have hst := hN.stp
  have hn4 : body.length ≤ 10000000 := by rw [hbl]; have := (blen_bd a.step.toNat).2; omega
  have t1 : IntKind.i64.wrap (a.step + 1) = a.step + 1 := IntWalk.i64_in _ (by omega)
  have hhl := hN.hl
  have hp1 := hN.p1
  have hp2 := hN.p2
  have hb2 : body.length = 2 := by rw [hbl, h2]; rfl
  obtain ⟨gm, om, hbm, hcm⟩ := hM.at 0 (by omega)
  subst hbm
  have hb0 := hbr _ (getD_mem body 0 (by omega))
  have hth : 0 ≤ thV a ∧ thV a ≤ a.P - 1 := cmb_rng _ _ _ _ _ _ _ _ (by omega)
  have t2 : IntKind.i64.wrap (thV a + body.getD 0 0) = thV a + body.getD 0 0 := IntWalk.i64_in _ (by omega)
  have CB := Lib.hid (fun (W : World) (h3 : PlR W x a.shares a.keys a.heard) => body_2 a x W h3 hN h2)
  have d1 : ((a.step == 2) : Bool) = true := by simpa using h2
  have hgm := World.block_lt_of_cell? w _ hcm
  have hlt0 : (0 : Int) < (body.length : Int) := by omega
  have hlt1 : 0 < body.length := by omega
  generalize thV a = th at *
  generalize body.getD 0 0 = b0 at *
  simp only [Nat.add_zero] at hcm
  replace hb2 := Lib.hid hb2
  have hst2 : a.step ≤ 2 := by omega
  replace h2 := Lib.hid h2
  clear h hM hT hs hN hacc hbl hbr
  go_enter Tryd.func92, Tryd.ntmps92
  go_wp2_with fail
  refine Exists.elim (Blk.new_ w (b := w.heap.size) rfl 31 #[.int .i64 a.P, .int .i64 a.party, .int .i64 a.input, .int .i64 a.mask, .int .i64 a.delta, .slice x.sa x.sn x.sc, .slice x.ka x.kn x.kc, .int .i64 a.step, .slice x.ha x.hn x.hc, .int .i64 a.status, .int .i64 a.out]) (fun w1_a0' q => ?_)
  rw [q.1]; have B_a := q.2.1; have s_w1_a0' := q.2.2.1; have u_w1_a0' := q.2.2.2; clear q
  refine Exists.elim (Blk.new_ w1_a0' (b := w.heap.size + 1) s_w1_a0' 44 #[.int .i64 fr, .int .i64 st, .slice (some ⟨gm, om, none⟩) body.length c]) (fun w1_a1' q => ?_)
  rw [q.1]; have B_m := q.2.1; have s_w1_a1' := q.2.2.1; have u_w1_a1' := q.2.2.2; clear q
  refine Exists.elim (Blk.new_ w1_a1' (b := w.heap.size + 2) s_w1_a1' 31 #[.int .i64 0, .int .i64 0, .int .i64 0, .int .i64 0, .int .i64 0, .slice none 0 0, .slice none 0 0, .int .i64 0, .slice none 0 0, .int .i64 0, .int .i64 0]) (fun w1' q => ?_)
  rw [q.1]; have B_r := q.2.1; have s_w1' := q.2.2.1; have u_w1' := q.2.2.2; clear q
  replace B_a := ((B_a.below u_w1_a1').below u_w1')
  replace B_m := (B_m.below u_w1')
  have U := (u_w1_a0'.trans ((u_w1_a1'.trans (u_w1'.mono u_w1_a1'.size)).mono u_w1_a0'.size))
  have S_w1' : w.heap.size + 3 ≤ w1'.heap.size := Nat.le_of_eq s_w1'.symm
  have V_w1' := (Below.refl w.heap.size w).trans (U.mono ((Below.refl w.heap.size w)).size)
  clear u_w1_a0' u_w1_a1' u_w1' s_w1_a0' s_w1_a1' s_w1' U
  refine (CP.out _ (LH.out.below V_w1')).mono ?_
  rintro e w2' ⟨y, F, rfl, o, u_w2'⟩
  replace B_a := B_a.below u_w2'
  replace B_m := B_m.below u_w2'
  replace B_r := B_r.below u_w2'
  have S_w2' := u_w2'.size
  have V_w2' : Below w.heap.size w w2' := V_w1'.trans (u_w2'.mono V_w1'.size)
  clear V_w1'
  clear u_w2'
  replace o := o.lower (b' := w.heap.size + 3) S_w1'
  have Q_o := Lib.hid o.feet
  go_upto_region 2 with fail
  refine Exists.elim (Blk.new_ w2' (b := w2'.heap.size) rfl 31 #[.int .i64 a.P, .int .i64 a.party, .int .i64 a.input, .int .i64 a.mask, .int .i64 a.delta, .slice y.sa y.sn y.sc, .slice y.ka y.kn y.kc, .int .i64 a.step, .slice y.ha y.hn y.hc, .int .i64 a.status, .int .i64 a.out]) (fun w3' q => ?_)
  rw [q.1]; have B_b := q.2.1; have s_w3' := q.2.2.1; have u_w3' := q.2.2.2; clear q
  replace B_a := B_a.below u_w3'
  replace B_m := B_m.below u_w3'
  replace B_r := B_r.below u_w3'
  replace o := o.below u_w3'
  have S_w3' : w2'.heap.size + 1 ≤ w3'.heap.size := Nat.le_of_eq s_w3'.symm
  have V_w3' := V_w2'.trans (u_w3'.mono (V_w2').size)
  clear u_w3' s_w3' V_w2'
  have e_a := B_a.all11
  have e_m := B_m.all3
  go_wp2_with fail
  clear e_a e_m
  refine (CA.out _ (LH.out.below V_w3') (LM.out.below V_w3') (LX.out.below V_w3')).mono ?_
  rintro e w4' ⟨rfl, u_w4'⟩
  replace B_a := B_a.below u_w4'
  replace B_m := B_m.below u_w4'
  replace B_r := B_r.below u_w4'
  replace B_b := B_b.below u_w4'
  replace o := o.below u_w4'
  have S_w4' := u_w4'.size
  have V_w4' : Below w.heap.size w w4' := V_w3'.trans (u_w4'.mono V_w3'.size)
  clear V_w3'
  clear u_w4'
  obtain ⟨o5, o6, rs, o8, hd, D56, D58, D68, rfl⟩ := o
  have Q_o5 := Lib.hid (fun q (hq : q ∈ foot y.sa y.sc) => Q_o.out q (List.mem_append_left _ hq))
  have Q_o6 := Lib.hid (fun q (hq : q ∈ foot y.ka y.kc) => Q_o.out q (List.mem_append_right _ (List.mem_append_left _ hq)))
  have Q_o8 := Lib.hid (fun q (hq : q ∈ feetSS y.ha y.hc rs) => Q_o.out q (List.mem_append_right _ (List.mem_append_right _ hq)))
  have hrl := o8.reads.len
  have hrn : y.hn ≤ 2 := by have : rs.length = a.heard.length := by rw [← hd, datas_len]
                            omega
  replace hd := Lib.hid hd
  have e_a := B_a.all11
  have e_m := B_m.all3
  have e_b_9 := B_b.a11_9
  have f_b_9 := B_b.frozen 9
  have e_b_10 := B_b.a11_10
  have f_b_10 := B_b.frozen 10
  go_wp2
  have m6 := keepC V_w4'.drew hcm
  have hR6 := (LH.out.below V_w4').drew
  refine wp_region_noPanic ?_
  refine wp_region_held_drew (S := (fun W => Blk W (w.heap.size) 31 #[.int .i64 a.P, .int .i64 a.party, .int .i64 a.input, .int .i64 a.mask, .int .i64 a.delta, .slice x.sa x.sn x.sc, .slice x.ka x.kn x.kc, .int .i64 a.step, .slice x.ha x.hn x.hc, .int .i64 a.status, .int .i64 a.out] ∧ Blk W (w.heap.size + 1) 44 #[.int .i64 fr, .int .i64 st, .slice (some ⟨gm, om, none⟩) body.length c] ∧ W.cell? ⟨gm, om, none⟩ = some (.int .i64 b0))) (by kernel_rfl) ?hS14 (fun hHeld => ?go14)
  case hS14 => exact ⟨B_a.drew, B_m.drew, m6⟩
  refine tk (i := 0) (oi := ⟨some 17, _, _, _, _, _⟩) (v := ?v0_15) hHeld rfl ?y0_15 ?r0_15
  case y0_15 => (intro w _; first | (go_simp; first | done | with_reducible rfl) | with_reducible rfl)
  (try simp only [pt_])
  refine tk (i := 1) (oi := ⟨some 18, _, _, _, _, _⟩) (v := ?v1_16) hHeld rfl ?y1_16 ?r1_16
  case y1_16 => (intro w hSw; obtain ⟨qS0, qS1, qS2⟩ := hSw; have cS0 := qS0.all11; have cS1 := qS1.all3; first | (go_simp; first | done | with_reducible rfl) | with_reducible rfl)
  (try simp only [pt_])
  refine tk (i := 2) (oi := ⟨some 19, _, _, _, _, _⟩) (v := ?v2_17) hHeld rfl ?y2_17 ?r2_17
  case y2_17 => (intro w hSw; obtain ⟨qS0, qS1, qS2⟩ := hSw; have cS0 := qS0.all11; have cS1 := qS1.all3; first | (go_simp; first | done | with_reducible rfl) | with_reducible rfl)
  (try simp only [pt_])
  refine tk (i := 6) (oi := ⟨some 23, _, _, _, _, _⟩) (v := ?v6_18) hHeld rfl ?y6_18 ?r6_18
  case y6_18 => (intro w _; first | (go_simp; first | done | with_reducible rfl) | with_reducible rfl)
  (try simp only [pt_])
  refine tk (i := 7) (oi := ⟨some 24, _, _, _, _, _⟩) (v := ?v7_19) hHeld rfl ?y7_19 ?r7_19
  case y7_19 => (intro w hSw; obtain ⟨qS0, qS1, qS2⟩ := hSw; have cS0 := qS0.all11; have cS1 := qS1.all3; first | (go_simp; first | done | with_reducible rfl) | with_reducible rfl)
  (try simp only [pt_])
  refine tk (i := 8) (oi := ⟨some 25, _, _, _, _, _⟩) (v := ?v8_20) hHeld rfl ?y8_20 ?r8_20
  case y8_20 => (intro w _; first | (go_simp; first | done | with_reducible rfl) | with_reducible rfl)
  (try simp only [pt_])
  refine tk (i := 9) (oi := ⟨some 26, _, _, _, _, _⟩) (v := ?v9_21) hHeld rfl ?y9_21 ?r9_21
  case y9_21 => (intro w hSw; obtain ⟨qS0, qS1, qS2⟩ := hSw; have cS0 := qS0.all11; have cS1 := qS1.all3; first | (go_simp; first | done | with_reducible rfl) | with_reducible rfl)
  (try simp only [pt_])
  refine tk (i := 12) (oi := ⟨some 29, _, _, _, _, _⟩) (v := ?v12_22) hHeld rfl ?y12_22 ?r12_22
  case y12_22 => (intro w _; first | (go_simp; first | done | with_reducible rfl) | with_reducible rfl)
  (try simp only [pt_])
  refine wpAnyH_ready (rs := [3]) (by kernel_rfl) (by simp) ?_
  refine AllReadyH.cons (o := ⟨some 20, _, _, _, _, _⟩) rfl (fun K hK => ?_) ?_
  go_simp
  refine (CB.out _ hR6).mono ?_
  rintro e wz ⟨b9, d9, rfl, o9, u9⟩
  obtain ⟨_, E9, _, _, v9, _, _⟩ := o9.at 0 (by omega)
  cases E9
  have A9 := Blk.below B_a.drew u9
  have M9 := Blk.below B_m.drew u9
  have B9 := Blk.below B_b.drew u9
  have m9 := keepC u9 m6
  have v9' : wz.cell? ⟨_, 0, none⟩ = some (.int .i64 th) := v9
  have p9 := B9.frozen 9
  have r9 := B9.cell 9
  have r10 := B9.cell 10
  have p10 := B9.frozen 10
  focus (try go_wp2_with fail)
  refine hK.out _ _ ?_ (fun hHeld => ?_)
  · (exact ⟨A9, M9, m9⟩)
  clear hK K
  (try simp only [pt_])
  refine tk (i := 4) (oi := ⟨some 21, _, _, _, _, _⟩) (v := ?v4_23) hHeld rfl ?y4_23 ?r4_23
  case y4_23 => (intro w _; first | (go_simp; first | done | with_reducible rfl) | with_reducible rfl)
  (try simp only [pt_])
  refine wpAnyH_ready (rs := [5]) (by kernel_rfl) (by simp) ?_
  refine AllReadyH.cons (o := ⟨some 22, _, _, _, _, _⟩) rfl (fun K hK => ?_) ?_
  go_simp
  refine hK.out _ _ ?_ (fun hHeld => ?_)
  · (exact ⟨A9, M9, m9⟩)
  clear hK K
  (try simp only [pt_])
  refine tk (i := 10) (oi := ⟨some 27, _, _, _, _, _⟩) (v := ?v10_24) hHeld rfl ?y10_24 ?r10_24
  case y10_24 => (intro w _; first | (go_simp; first | done | with_reducible rfl) | with_reducible rfl)
  (try simp only [pt_])
  refine wpAnyH_ready (rs := [11]) (by kernel_rfl) (by simp) ?_
  refine AllReadyH.cons (o := ⟨some 28, _, _, _, _, _⟩) rfl (fun K hK => ?_) ?_
  go_simp
  refine (mod_same _ _ _ (by omega) (by omega)).mono ?_
  rintro e wy ⟨rfl, hw⟩
  replace hw := hw.symm
  subst hw
  focus (try go_wp2_with fail)
  refine hK.out _ _ ?_ (fun hHeld => ?_)
  · (exact ⟨A9, M9, m9⟩)
  clear hK K
  (try simp only [pt_])
  refine wpAnyH_ready (rs := [13]) (by kernel_rfl) (by simp) ?_
  refine AllReadyH.cons (o := ⟨none, _, _, _, _, _⟩) rfl (fun K hK => ?_) ?_
  have G8 : Only [w2'.heap.size] wz (wz.setCell ⟨w2'.heap.size, 9, none⟩ (.int .i64 1)) := (Only.refl _ _).setCell ⟨w2'.heap.size, 9, none⟩ _ (by simp)
  have A8 := Blk.only A9 G8 (by simp; omega)
  have M8 := Blk.only M9 G8 (by simp; omega)
  have m8 : (wz.setCell ⟨w2'.heap.size, 9, none⟩ (.int .i64 1)).cell? ⟨gm, om, none⟩ = some (.int .i64 b0) := cellFarP m9 (show gm ≠ w2'.heap.size by omega)
  have B8 := B9.set_ 9 (.int .i64 1)
  have k7 := B8.frozen 10
  go_simp
  refine hK.out _ _ ?_ (fun hHeld => ?_)
  · (exact ⟨A8, M8, m8⟩)
  clear hK K
  (try simp only [pt_])
  refine tk (i := 14) (oi := ⟨some 30, _, _, _, _, _⟩) (v := ?v14_25) hHeld rfl ?y14_25 ?r14_25
  case y14_25 => (intro w _; first | (go_simp; first | done | with_reducible rfl) | with_reducible rfl)
  (try simp only [pt_])
  refine wpAnyH_ready (rs := [15]) (by kernel_rfl) (by simp) ?_
  refine AllReadyH.cons (o := ⟨none, _, _, _, _, _⟩) rfl (fun K hK => ?_) ?_
  go_simp
  refine hK.out _ _ ?_ (fun hHeld => ?_)
  · (exact ⟨Blk.only A8 ((Only.refl [w2'.heap.size] _).setCell ⟨w2'.heap.size, 10, none⟩ _ (by simp)) (by simp; omega), Blk.only M8 ((Only.refl [w2'.heap.size] _).setCell ⟨w2'.heap.size, 10, none⟩ _ (by simp)) (by simp; omega), cellFarP m8 (show gm ≠ w2'.heap.size by omega)⟩)
  clear hK K
  (try simp only [pt_])
  refine wpAnyH_done (by kernel_rfl) ?_ _
  refine NoPanic.normal ?_
  rotate_left 1
  exact AllReadyH.nil
  exact AllReadyH.nil
  exact AllReadyH.nil
  exact AllReadyH.nil
  exact AllReadyH.nil
  clear A9 M9 B9 m9 v9 v9' p9 p10 r9 r10 G8 A8 M8 m8 B8 k7 hR6 m6 o9
  clear e_a e_m e_b_9 f_b_9 e_b_10 f_b_10
  have uA : Below w4'.heap.size w4' wz := (Below.refl _ _).drew.trans u9
  clear u9
  replace B_a := B_a.below uA
  replace B_m := B_m.below uA
  replace B_r := B_r.below uA
  replace B_b := B_b.below uA
  replace o5 := o5.below uA
  replace o6 := o6.below uA
  replace o8 := o8.below uA
  have S_wz := uA.size
  have V_wz : Below w.heap.size w wz := V_w4'.trans (uA.mono V_w4'.size)
  clear V_w4'
  clear uA
  have g_1 : Only [w2'.heap.size] wz (wz.setCell ⟨w2'.heap.size, 9, none⟩ (.int .i64 1)) := (Only.refl _ _).setCell _ _ (by simp)
  replace B_b := B_b.set_ 9 (.int .i64 1)
  generalize wz.setCell ⟨w2'.heap.size, 9, none⟩ (.int .i64 1) = w5_1' at *
  have G := g_1
  clear g_1
  have g_2 : Only [w2'.heap.size] w5_1' (w5_1'.setCell ⟨w2'.heap.size, 10, none⟩ (.int .i64 ((th + b0) % a.P))) := (Only.refl _ _).setCell _ _ (by simp)
  replace B_b := B_b.set_ 10 (.int .i64 ((th + b0) % a.P))
  generalize w5_1'.setCell ⟨w2'.heap.size, 10, none⟩ (.int .i64 ((th + b0) % a.P)) = w5' at *
  replace G := G.trans g_2
  clear g_2
  simp only [List.setIfInBounds_toArray, List.set_cons_zero, List.set_cons_succ] at B_b
  have V_w5' := (V_wz).trans (G.below (V_wz).size (fun q hq => by have := (V_wz).size; simp at hq; omega))
  replace B_a := B_a.only G (by first | (simp; done) | (simp; omega))
  replace B_m := B_m.only G (by first | (simp; done) | (simp; omega))
  replace B_r := B_r.only G (by first | (simp; done) | (simp; omega))
  replace o5 := o5.only G (fun q hq hq' => by have := Q_o5.out q hq; simp at hq'; omega)
  replace o6 := o6.only G (fun q hq hq' => by have := Q_o6.out q hq; simp at hq'; omega)
  replace o8 := o8.only G (fun q hq hq' => by have := Q_o8.out q hq; simp at hq'; omega)
  have sG0 := G.size
  clear G
  clear V_wz
  have S_w5' : wz.heap.size + 0 ≤ w5'.heap.size := by omega
  clear sG0
  have NN : ∀ q, q ∈ foot y.ha y.hc → w.heap.size + 3 ≤ q ∧ q < w2'.heap.size := fun q hq => (Q_o8.out q (List.mem_append_left _ hq))
  have SL : w.heap.size + 3 ≤ w5'.drew.heap.size := (show w.heap.size + 3 ≤ w5'.heap.size by omega)
  have hM7 := (LM.out.below V_w5').below (Below.refl _ _).drew
  have e_a_7 := B_a.a11_7
  have e_m_2 := B_m.a3_2
  have e_b_8 := B_b.a11_8
  have f_b_8 := B_b.frozen 8
  have e_b_7 := B_b.a11_7
  have f_b_7 := B_b.frozen 7
  go_wp2
  refine wp_region_noPanic ?_
  refine wp_region_held_drew (S := (fun W => Blk W (w.heap.size) 31 #[.int .i64 a.P, .int .i64 a.party, .int .i64 a.input, .int .i64 a.mask, .int .i64 a.delta, .slice x.sa x.sn x.sc, .slice x.ka x.kn x.kc, .int .i64 a.step, .slice x.ha x.hn x.hc, .int .i64 a.status, .int .i64 a.out] ∧ Blk W (w.heap.size + 1) 44 #[.int .i64 fr, .int .i64 st, .slice (some ⟨gm, om, none⟩) body.length c])) (by kernel_rfl) ?hS26 (fun hHeld => ?go26)
  case hS26 => exact ⟨B_a.drew, B_m.drew⟩
  refine tk (i := 0) (oi := ⟨some 31, _, _, _, _, _⟩) (v := ?v0_27) hHeld rfl ?y0_27 ?r0_27
  case y0_27 => (intro w _; first | (go_simp; first | done | with_reducible rfl) | with_reducible rfl)
  (try simp only [pt_])
  refine tk (i := 2) (oi := ⟨some 33, _, _, _, _, _⟩) (v := ?v2_28) hHeld rfl ?y2_28 ?r2_28
  case y2_28 => (intro w _; first | (go_simp; first | done | with_reducible rfl) | with_reducible rfl)
  (try simp only [pt_])
  refine tk (i := 3) (oi := ⟨some 34, _, _, _, _, _⟩) (v := ?v3_29) hHeld rfl ?y3_29 ?r3_29
  case y3_29 => (intro w hSw; obtain ⟨qS0, qS1⟩ := hSw; have cS0 := qS0.all11; have cS1 := qS1.all3; first | (go_simp; first | done | with_reducible rfl) | with_reducible rfl)
  (try simp only [pt_])
  refine tk (i := 7) (oi := ⟨some 38, _, _, _, _, _⟩) (v := ?v7_30) hHeld rfl ?y7_30 ?r7_30
  case y7_30 => (intro w _; first | (go_simp; first | done | with_reducible rfl) | with_reducible rfl)
  (try simp only [pt_])
  refine tk (i := 8) (oi := ⟨some 39, _, _, _, _, _⟩) (v := ?v8_31) hHeld rfl ?y8_31 ?r8_31
  case y8_31 => (intro w hSw; obtain ⟨qS0, qS1⟩ := hSw; have cS0 := qS0.all11; have cS1 := qS1.all3; first | (go_simp; first | done | with_reducible rfl) | with_reducible rfl)
  (try simp only [pt_])
  refine tk (i := 9) (oi := ⟨some 40, _, _, _, _, _⟩) (v := ?v9_32) hHeld rfl ?y9_32 ?r9_32
  case y9_32 => (intro w _; first | (go_simp; first | done | with_reducible rfl) | with_reducible rfl)
  (try simp only [pt_])
  refine wpAnyH_ready (rs := [1, 4]) (by kernel_rfl) (by simp) ?_
  refine AllReadyH.cons (o := ⟨some 32, _, _, _, _, _⟩) rfl (fun K hK => ?_) ?_
  go_simp
  refine hK.out _ _ ?_ (fun hHeld => ?_)
  · (first | exact ⟨A8, M8⟩ | exact ⟨A7, M7⟩ | exact ⟨A9A, M9A⟩ | exact ⟨A9, M9⟩ | exact ⟨B_a.drew, B_m.drew⟩)
  clear hK K
  (try simp only [pt_])
  refine wpAnyH_ready (rs := [4]) (by kernel_rfl) (by simp) ?_
  refine AllReadyH.cons (o := ⟨some 35, _, _, _, _, _⟩) rfl (fun K hK => ?_) ?_
  go_simp
  refine (Clone_any _ _ _ body _ hM7 hn4).mono ?_
  rintro e wz ⟨b9, d9, rfl, o9, u9⟩
  have A9 := Blk.below B_a.drew u9
  have A9A := Blk.alloc A9 (.cells #[.slice b9 body.length d9] 23)
  have M9 := Blk.below B_m.drew u9
  have M9A := Blk.alloc M9 (.cells #[.slice b9 body.length d9] 23)
  have B9 := Blk.below B_b.drew u9
  have B9A := Blk.alloc B9 (.cells #[.slice b9 body.length d9] 23)
  have g9b := B9.cell 8
  have g9B := B9A.cell 8
  focus (try go_wp2_with fail)
  refine hK.out _ _ ?_ (fun hHeld => ?_)
  · (first | exact ⟨A8, M8⟩ | exact ⟨A7, M7⟩ | exact ⟨A9A, M9A⟩ | exact ⟨A9, M9⟩ | exact ⟨B_a.drew, B_m.drew⟩)
  clear hK K
  (try simp only [pt_])
  refine wpAnyH_ready (rs := [5]) (by kernel_rfl) (by simp) ?_
  refine AllReadyH.cons (o := ⟨some 36, _, _, _, _, _⟩) rfl (fun K hK => ?_) ?_
  go_simp
  refine hK.out _ _ ?_ (fun hHeld => ?_)
  · (first | exact ⟨A8, M8⟩ | exact ⟨A7, M7⟩ | exact ⟨A9A, M9A⟩ | exact ⟨A9, M9⟩ | exact ⟨B_a.drew, B_m.drew⟩)
  clear hK K
  (try simp only [pt_])
  refine wpAnyH_ready (rs := [6]) (by kernel_rfl) (by simp) ?_
  refine AllReadyH.cons (o := ⟨some 37, _, _, _, _, _⟩) rfl (fun K hK => ?_) ?_
  have hdj : Disj (foot b9 d9) (feetSS y.ha y.hc rs) := Disj.of_rng o9.feet o8.feet (Or.inr (Nat.le_refl _))
  have own2 := o8.below ((Below.refl _ _).drew.trans u9)
  have o10 := o9.lower (b' := w.heap.size + 3) SL
  have LIT := RowC.lit1 wz (rowV (b9, d9, body)) 23
  have own3 := OwnSS.alloc own2 (.cells #[rowV (b9, d9, body)] 23)
  have o11 := Own.alloc o10 (.cells #[rowV (b9, d9, body)] 23)
  have OO : OwnC (wz.alloc (.cells #[rowV (b9, d9, body)] 23)) (w.heap.size + 3) y.ha y.hn y.hc 23 1 (rs.map rowV) := own3.out
  have szz : w.heap.size + 3 ≤ (wz.alloc (.cells #[rowV (b9, d9, body)] 23)).heap.size := by have := u9.size; simp at *; omega
  refine step_appSS (by rfl) _ _ (by rfl) (w.heap.size + 3) y.ha y.hn y.hc (rs.map rowV) (by rfl) OO _ 1 1 [rowV (b9, d9, body)] (by rfl) LIT (by simp [rowV, Value.oneCell']) (by omega) szz ?_
  intro a7 c7 w7 oc u7 g7 m7
  have A7 := Blk.only A9A (Only.of_grown g7) (fun hq => by have := NN _ hq; omega)
  have M7 := Blk.only M9A (Only.of_grown g7) (fun hq => by have := NN _ hq; omega)
  have B7 := Blk.only B9A (Only.of_grown g7) (fun hq => by have := NN _ hq; omega)
  have j8 := B7.cell 8
  have j7 := B7.cell 7
  have f8 := B7.frozen 8
  have f7 := B7.frozen 7
  refine hK.out _ _ ?_ (fun hHeld => ?_)
  · (first | exact ⟨A8, M8⟩ | exact ⟨A7, M7⟩ | exact ⟨A9A, M9A⟩ | exact ⟨A9, M9⟩ | exact ⟨B_a.drew, B_m.drew⟩)
  clear hK K
  (try simp only [pt_])
  refine tk (i := 10) (oi := ⟨some 41, _, _, _, _, _⟩) (v := ?v10_33) hHeld rfl ?y10_33 ?r10_33
  case y10_33 => (intro w _; first | (go_simp; first | done | with_reducible rfl) | with_reducible rfl)
  (try simp only [pt_])
  refine wpAnyH_ready (rs := [11]) (by kernel_rfl) (by simp) ?_
  refine AllReadyH.cons (o := ⟨none, _, _, _, _, _⟩) rfl (fun K hK => ?_) ?_
  have G8 : Only [w2'.heap.size] w7 (w7.setCell ⟨w2'.heap.size, 8, none⟩ (.slice a7 (y.hn + 1) c7)) := (Only.refl _ _).setCell ⟨w2'.heap.size, 8, none⟩ _ (by simp)
  have A8 := Blk.only A7 G8 (by simp; omega)
  have M8 := Blk.only M7 G8 (by simp; omega)
  have B8 := B7.set_ 8 (.slice a7 (y.hn + 1) c7)
  have k7 := B8.frozen 7
  go_simp
  refine hK.out _ _ ?_ (fun hHeld => ?_)
  · (first | exact ⟨A8, M8⟩ | exact ⟨A7, M7⟩ | exact ⟨A9A, M9A⟩ | exact ⟨A9, M9⟩ | exact ⟨B_a.drew, B_m.drew⟩)
  clear hK K
  (try simp only [pt_])
  refine tk (i := 12) (oi := ⟨some 42, _, _, _, _, _⟩) (v := ?v12_34) hHeld rfl ?y12_34 ?r12_34
  case y12_34 => (intro w _; first | (go_simp; first | done | with_reducible rfl) | with_reducible rfl)
  (try simp only [pt_])
  refine wpAnyH_ready (rs := [13]) (by kernel_rfl) (by simp) ?_
  refine AllReadyH.cons (o := ⟨none, _, _, _, _, _⟩) rfl (fun K hK => ?_) ?_
  go_simp
  refine hK.out _ _ ?_ (fun hHeld => ?_)
  · (exact ⟨Blk.only A8 ((Only.refl [w2'.heap.size] _).setCell ⟨w2'.heap.size, 7, none⟩ _ (by simp)) (by simp; omega), Blk.only M8 ((Only.refl [w2'.heap.size] _).setCell ⟨w2'.heap.size, 7, none⟩ _ (by simp)) (by simp; omega)⟩)
  clear hK K
  (try simp only [pt_])
  refine wpAnyH_done (by kernel_rfl) ?_ _
  refine NoPanic.normal ?_
  rotate_left 1
  exact AllReadyH.nil
  exact AllReadyH.nil
  exact AllReadyH.nil
  exact AllReadyH.nil
  exact AllReadyH.nil
  refine AllReadyH.cons (o := ⟨some 35, _, _, _, _, _⟩) rfl (fun K hK => ?_) ?_
  go_simp
  refine (Clone_any _ _ _ body _ hM7 hn4).mono ?_
  rintro e wz ⟨b9, d9, rfl, o9, u9⟩
  have A9 := Blk.below B_a.drew u9
  have A9A := Blk.alloc A9 (.cells #[.slice b9 body.length d9] 23)
  have M9 := Blk.below B_m.drew u9
  have M9A := Blk.alloc M9 (.cells #[.slice b9 body.length d9] 23)
  have B9 := Blk.below B_b.drew u9
  have B9A := Blk.alloc B9 (.cells #[.slice b9 body.length d9] 23)
  have g9b := B9.cell 8
  have g9B := B9A.cell 8
  focus (try go_wp2_with fail)
  refine hK.out _ _ ?_ (fun hHeld => ?_)
  · (first | exact ⟨A8, M8⟩ | exact ⟨A7, M7⟩ | exact ⟨A9A, M9A⟩ | exact ⟨A9, M9⟩ | exact ⟨B_a.drew, B_m.drew⟩)
  clear hK K
  (try simp only [pt_])
  refine wpAnyH_ready (rs := [1, 5]) (by kernel_rfl) (by simp) ?_
  refine AllReadyH.cons (o := ⟨some 32, _, _, _, _, _⟩) rfl (fun K hK => ?_) ?_
  go_simp
  refine hK.out _ _ ?_ (fun hHeld => ?_)
  · (first | exact ⟨A8, M8⟩ | exact ⟨A7, M7⟩ | exact ⟨A9A, M9A⟩ | exact ⟨A9, M9⟩ | exact ⟨B_a.drew, B_m.drew⟩)
  clear hK K
  (try simp only [pt_])
  refine wpAnyH_ready (rs := [5]) (by kernel_rfl) (by simp) ?_
  refine AllReadyH.cons (o := ⟨some 36, _, _, _, _, _⟩) rfl (fun K hK => ?_) ?_
  go_simp
  refine hK.out _ _ ?_ (fun hHeld => ?_)
  · (first | exact ⟨A8, M8⟩ | exact ⟨A7, M7⟩ | exact ⟨A9A, M9A⟩ | exact ⟨A9, M9⟩ | exact ⟨B_a.drew, B_m.drew⟩)
  clear hK K
  (try simp only [pt_])
  refine wpAnyH_ready (rs := [6]) (by kernel_rfl) (by simp) ?_
  refine AllReadyH.cons (o := ⟨some 37, _, _, _, _, _⟩) rfl (fun K hK => ?_) ?_
  have hdj : Disj (foot b9 d9) (feetSS y.ha y.hc rs) := Disj.of_rng o9.feet o8.feet (Or.inr (Nat.le_refl _))
  have own2 := o8.below ((Below.refl _ _).drew.trans u9)
  have o10 := o9.lower (b' := w.heap.size + 3) SL
  have LIT := RowC.lit1 wz (rowV (b9, d9, body)) 23
  have own3 := OwnSS.alloc own2 (.cells #[rowV (b9, d9, body)] 23)
  have o11 := Own.alloc o10 (.cells #[rowV (b9, d9, body)] 23)
  have OO : OwnC (wz.alloc (.cells #[rowV (b9, d9, body)] 23)) (w.heap.size + 3) y.ha y.hn y.hc 23 1 (rs.map rowV) := own3.out
  have szz : w.heap.size + 3 ≤ (wz.alloc (.cells #[rowV (b9, d9, body)] 23)).heap.size := by have := u9.size; simp at *; omega
  refine step_appSS (by rfl) _ _ (by rfl) (w.heap.size + 3) y.ha y.hn y.hc (rs.map rowV) (by rfl) OO _ 1 1 [rowV (b9, d9, body)] (by rfl) LIT (by simp [rowV, Value.oneCell']) (by omega) szz ?_
  intro a7 c7 w7 oc u7 g7 m7
  have A7 := Blk.only A9A (Only.of_grown g7) (fun hq => by have := NN _ hq; omega)
  have M7 := Blk.only M9A (Only.of_grown g7) (fun hq => by have := NN _ hq; omega)
  have B7 := Blk.only B9A (Only.of_grown g7) (fun hq => by have := NN _ hq; omega)
  have j8 := B7.cell 8
  have j7 := B7.cell 7
  have f8 := B7.frozen 8
  have f7 := B7.frozen 7
  refine hK.out _ _ ?_ (fun hHeld => ?_)
  · (first | exact ⟨A8, M8⟩ | exact ⟨A7, M7⟩ | exact ⟨A9A, M9A⟩ | exact ⟨A9, M9⟩ | exact ⟨B_a.drew, B_m.drew⟩)
  clear hK K
  (try simp only [pt_])
  refine tk (i := 10) (oi := ⟨some 41, _, _, _, _, _⟩) (v := ?v10_35) hHeld rfl ?y10_35 ?r10_35
  case y10_35 => (intro w _; first | (go_simp; first | done | with_reducible rfl) | with_reducible rfl)
  (try simp only [pt_])
  refine wpAnyH_ready (rs := [11]) (by kernel_rfl) (by simp) ?_
  refine AllReadyH.cons (o := ⟨none, _, _, _, _, _⟩) rfl (fun K hK => ?_) ?_
  have G8 : Only [w2'.heap.size] w7 (w7.setCell ⟨w2'.heap.size, 8, none⟩ (.slice a7 (y.hn + 1) c7)) := (Only.refl _ _).setCell ⟨w2'.heap.size, 8, none⟩ _ (by simp)
  have A8 := Blk.only A7 G8 (by simp; omega)
  have M8 := Blk.only M7 G8 (by simp; omega)
  have B8 := B7.set_ 8 (.slice a7 (y.hn + 1) c7)
  have k7 := B8.frozen 7
  go_simp
  refine hK.out _ _ ?_ (fun hHeld => ?_)
  · (first | exact ⟨A8, M8⟩ | exact ⟨A7, M7⟩ | exact ⟨A9A, M9A⟩ | exact ⟨A9, M9⟩ | exact ⟨B_a.drew, B_m.drew⟩)
  clear hK K
  (try simp only [pt_])
  refine tk (i := 12) (oi := ⟨some 42, _, _, _, _, _⟩) (v := ?v12_36) hHeld rfl ?y12_36 ?r12_36
  case y12_36 => (intro w _; first | (go_simp; first | done | with_reducible rfl) | with_reducible rfl)
  (try simp only [pt_])
  refine wpAnyH_ready (rs := [13]) (by kernel_rfl) (by simp) ?_
  refine AllReadyH.cons (o := ⟨none, _, _, _, _, _⟩) rfl (fun K hK => ?_) ?_
  go_simp
  refine hK.out _ _ ?_ (fun hHeld => ?_)
  · (exact ⟨Blk.only A8 ((Only.refl [w2'.heap.size] _).setCell ⟨w2'.heap.size, 7, none⟩ _ (by simp)) (by simp; omega), Blk.only M8 ((Only.refl [w2'.heap.size] _).setCell ⟨w2'.heap.size, 7, none⟩ _ (by simp)) (by simp; omega)⟩)
  clear hK K
  (try simp only [pt_])
  refine wpAnyH_done (by kernel_rfl) ?_ _
  refine NoPanic.normal ?_
  rotate_left 1
  exact AllReadyH.nil
  exact AllReadyH.nil
  exact AllReadyH.nil
  exact AllReadyH.nil
  refine AllReadyH.cons (o := ⟨some 36, _, _, _, _, _⟩) rfl (fun K hK => ?_) ?_
  go_simp
  refine hK.out _ _ ?_ (fun hHeld => ?_)
  · (first | exact ⟨A8, M8⟩ | exact ⟨A7, M7⟩ | exact ⟨A9A, M9A⟩ | exact ⟨A9, M9⟩ | exact ⟨B_a.drew, B_m.drew⟩)
  clear hK K
  (try simp only [pt_])
  refine wpAnyH_ready (rs := [1]) (by kernel_rfl) (by simp) ?_
  refine AllReadyH.cons (o := ⟨some 32, _, _, _, _, _⟩) rfl (fun K hK => ?_) ?_
  go_simp
  refine hK.out _ _ ?_ (fun hHeld => ?_)
  · (first | exact ⟨A8, M8⟩ | exact ⟨A7, M7⟩ | exact ⟨A9A, M9A⟩ | exact ⟨A9, M9⟩ | exact ⟨B_a.drew, B_m.drew⟩)
  clear hK K
  (try simp only [pt_])
  refine wpAnyH_ready (rs := [6]) (by kernel_rfl) (by simp) ?_
  refine AllReadyH.cons (o := ⟨some 37, _, _, _, _, _⟩) rfl (fun K hK => ?_) ?_
  have hdj : Disj (foot b9 d9) (feetSS y.ha y.hc rs) := Disj.of_rng o9.feet o8.feet (Or.inr (Nat.le_refl _))
  have own2 := o8.below ((Below.refl _ _).drew.trans u9)
  have o10 := o9.lower (b' := w.heap.size + 3) SL
  have LIT := RowC.lit1 wz (rowV (b9, d9, body)) 23
  have own3 := OwnSS.alloc own2 (.cells #[rowV (b9, d9, body)] 23)
  have o11 := Own.alloc o10 (.cells #[rowV (b9, d9, body)] 23)
  have OO : OwnC (wz.alloc (.cells #[rowV (b9, d9, body)] 23)) (w.heap.size + 3) y.ha y.hn y.hc 23 1 (rs.map rowV) := own3.out
  have szz : w.heap.size + 3 ≤ (wz.alloc (.cells #[rowV (b9, d9, body)] 23)).heap.size := by have := u9.size; simp at *; omega
  refine step_appSS (by rfl) _ _ (by rfl) (w.heap.size + 3) y.ha y.hn y.hc (rs.map rowV) (by rfl) OO _ 1 1 [rowV (b9, d9, body)] (by rfl) LIT (by simp [rowV, Value.oneCell']) (by omega) szz ?_
  intro a7 c7 w7 oc u7 g7 m7
  have A7 := Blk.only A9A (Only.of_grown g7) (fun hq => by have := NN _ hq; omega)
  have M7 := Blk.only M9A (Only.of_grown g7) (fun hq => by have := NN _ hq; omega)
  have B7 := Blk.only B9A (Only.of_grown g7) (fun hq => by have := NN _ hq; omega)
  have j8 := B7.cell 8
  have j7 := B7.cell 7
  have f8 := B7.frozen 8
  have f7 := B7.frozen 7
  refine hK.out _ _ ?_ (fun hHeld => ?_)
  · (first | exact ⟨A8, M8⟩ | exact ⟨A7, M7⟩ | exact ⟨A9A, M9A⟩ | exact ⟨A9, M9⟩ | exact ⟨B_a.drew, B_m.drew⟩)
  clear hK K
  (try simp only [pt_])
  refine tk (i := 10) (oi := ⟨some 41, _, _, _, _, _⟩) (v := ?v10_37) hHeld rfl ?y10_37 ?r10_37
  case y10_37 => (intro w _; first | (go_simp; first | done | with_reducible rfl) | with_reducible rfl)
  (try simp only [pt_])
  refine wpAnyH_ready (rs := [11]) (by kernel_rfl) (by simp) ?_
  refine AllReadyH.cons (o := ⟨none, _, _, _, _, _⟩) rfl (fun K hK => ?_) ?_
  have G8 : Only [w2'.heap.size] w7 (w7.setCell ⟨w2'.heap.size, 8, none⟩ (.slice a7 (y.hn + 1) c7)) := (Only.refl _ _).setCell ⟨w2'.heap.size, 8, none⟩ _ (by simp)
  have A8 := Blk.only A7 G8 (by simp; omega)
  have M8 := Blk.only M7 G8 (by simp; omega)
  have B8 := B7.set_ 8 (.slice a7 (y.hn + 1) c7)
  have k7 := B8.frozen 7
  go_simp
  refine hK.out _ _ ?_ (fun hHeld => ?_)
  · (first | exact ⟨A8, M8⟩ | exact ⟨A7, M7⟩ | exact ⟨A9A, M9A⟩ | exact ⟨A9, M9⟩ | exact ⟨B_a.drew, B_m.drew⟩)
  clear hK K
  (try simp only [pt_])
  refine tk (i := 12) (oi := ⟨some 42, _, _, _, _, _⟩) (v := ?v12_38) hHeld rfl ?y12_38 ?r12_38
  case y12_38 => (intro w _; first | (go_simp; first | done | with_reducible rfl) | with_reducible rfl)
  (try simp only [pt_])
  refine wpAnyH_ready (rs := [13]) (by kernel_rfl) (by simp) ?_
  refine AllReadyH.cons (o := ⟨none, _, _, _, _, _⟩) rfl (fun K hK => ?_) ?_
  go_simp
  refine hK.out _ _ ?_ (fun hHeld => ?_)
  · (exact ⟨Blk.only A8 ((Only.refl [w2'.heap.size] _).setCell ⟨w2'.heap.size, 7, none⟩ _ (by simp)) (by simp; omega), Blk.only M8 ((Only.refl [w2'.heap.size] _).setCell ⟨w2'.heap.size, 7, none⟩ _ (by simp)) (by simp; omega)⟩)
  clear hK K
  (try simp only [pt_])
  refine wpAnyH_done (by kernel_rfl) ?_ _
  refine NoPanic.normal ?_
  rotate_left 1
  exact AllReadyH.nil
  exact AllReadyH.nil
  exact AllReadyH.nil
  exact AllReadyH.nil
  exact AllReadyH.nil
  exact AllReadyH.nil
  all_goals
    have own4 := own3.push (r := (b9, d9, body)) o11 hdj oc g7 m7
    have hd5 : datas' (rs ++ [(b9, d9, body)]) = a.heard ++ [body] := by rw [← hd.out]; simp [datas']
    replace hd5 := Lib.hid hd5
    have uA : Below w5'.heap.size w5' wz := (Below.refl _ _).drew.trans u9
    have Q9 := Lib.hid o9.feet
    have SW := V_w5'.size
    have E5 : Disj (foot y.sa y.sc) (feetSS a7 c7 (rs ++ [(b9, d9, body)])) := push_feet D58 (fun q hq hq' => by have := Q_o5.out q hq; have := (Q9.out q hq').1; simp at this; omega) m7 (fun q hq => by have := Q_o5.out q hq; have := uA.size; simp; omega)
    have E6 : Disj (foot y.ka y.kc) (feetSS a7 c7 (rs ++ [(b9, d9, body)])) := push_feet D68 (fun q hq hq' => by have := Q_o6.out q hq; have := (Q9.out q hq').1; simp at this; omega) m7 (fun q hq => by have := Q_o6.out q hq; have := uA.size; simp; omega)
    have E7 : Disj [w2'.heap.size] (feetSS a7 c7 (rs ++ [(b9, d9, body)])) := push_feet (fun q hq hq' => by have := Q_o8.out q hq'; simp at hq; omega) (fun q hq hq' => by have := (Q9.out q hq').1; simp at this hq; omega) m7 (fun q hq => by have := uA.size; simp at hq ⊢; omega)
    have Q_own4 := Lib.hid (fun q (hq : q ∈ feetSS a7 c7 (rs ++ [(b9, d9, body)])) => (show (w.heap.size + 3 ≤ q ∧ q < w7.heap.size) ∧ q ≠ w2'.heap.size from ⟨own4.feet q hq, fun e => E7 q (by simp [e]) hq⟩))
    clear own2 o9 o10 o11 own3 oc u9 m7 hdj LIT OO szz A9 M9 B9 A9A M9A B9A g9b g9B A7 M7 B7 j8 j7 f8 f7 G8 A8 M8 B8 k7 hM7 Q9 o8
    clear e_a_7 e_m_2 e_b_8 f_b_8 e_b_7 f_b_7
    replace B_a := B_a.below uA
    replace B_m := B_m.below uA
    replace B_r := B_r.below uA
    replace B_b := B_b.below uA
    replace o5 := o5.below uA
    replace o6 := o6.below uA
    have S_wz := uA.size
    have V_wz : Below w.heap.size w wz := V_w5'.trans (uA.mono V_w5'.size)
    clear V_w5'
    clear uA
    refine Exists.elim (Blk.new_ wz (b := wz.heap.size) rfl 23 #[.slice b9 body.length d9]) (fun w6' q => ?_)
    (try rw [q.1] at g7); (try rw [q.1] at u7); (try rw [q.1]); have B_z := q.2.1; have s_w6' := q.2.2.1; have u_w6' := q.2.2.2; clear q
    replace B_a := B_a.below u_w6'
    replace B_m := B_m.below u_w6'
    replace B_r := B_r.below u_w6'
    replace B_b := B_b.below u_w6'
    replace o5 := o5.below u_w6'
    replace o6 := o6.below u_w6'
    have S_w6' : wz.heap.size + 1 ≤ w6'.heap.size := Nat.le_of_eq s_w6'.symm
    have V_w6' := V_wz.trans (u_w6'.mono (V_wz).size)
    clear u_w6' s_w6' V_wz
    clear B_z
    have oG := Only.of_grown g7
    have V_w7 : Below w.heap.size w w7 := V_w6'.trans (u7.mono (show w.heap.size ≤ w.heap.size + 3 by omega))
    replace B_a := Blk.only B_a oG (fun hq => by have := NN _ hq; omega)
    replace B_m := Blk.only B_m oG (fun hq => by have := NN _ hq; omega)
    replace B_r := Blk.only B_r oG (fun hq => by have := NN _ hq; omega)
    replace B_b := Blk.only B_b oG (fun hq => by have := NN _ hq; omega)
    replace o5 := OwnF.only o5 oG (fun q hq hq' => D58 q hq (List.mem_append_left _ hq'))
    replace o6 := o6.only oG (fun q hq hq' => D68 q hq (List.mem_append_left _ hq'))
    have SLw := oG.size
    clear oG u7 g7 NN
    have g_1 : Only [w2'.heap.size] w7 (w7.setCell ⟨w2'.heap.size, 8, none⟩ (.slice a7 (y.hn + 1) c7)) := (Only.refl _ _).setCell _ _ (by simp)
    replace B_b := B_b.set_ 8 (.slice a7 (y.hn + 1) c7)
    generalize w7.setCell ⟨w2'.heap.size, 8, none⟩ (.slice a7 (y.hn + 1) c7) = w7_1' at *
    have G := g_1
    clear g_1
    have g_2 : Only [w2'.heap.size] w7_1' (w7_1'.setCell ⟨w2'.heap.size, 7, none⟩ (.int .i64 (a.step + 1))) := (Only.refl _ _).setCell _ _ (by simp)
    replace B_b := B_b.set_ 7 (.int .i64 (a.step + 1))
    generalize w7_1'.setCell ⟨w2'.heap.size, 7, none⟩ (.int .i64 (a.step + 1)) = w7' at *
    replace G := G.trans g_2
    clear g_2
    simp only [List.setIfInBounds_toArray, List.set_cons_zero, List.set_cons_succ] at B_b
    have V_w7' := (V_w7).trans (G.below (V_w7).size (fun q hq => by have := (V_w7).size; simp at hq; omega))
    replace B_a := B_a.only G (by first | (simp; done) | (simp; omega))
    replace B_m := B_m.only G (by first | (simp; done) | (simp; omega))
    replace B_r := B_r.only G (by first | (simp; done) | (simp; omega))
    replace o5 := o5.only G (fun q hq hq' => by have := Q_o5.out q hq; simp at hq'; omega)
    replace o6 := o6.only G (fun q hq hq' => by have := Q_o6.out q hq; simp at hq'; omega)
    replace own4 := own4.only G (fun q hq hq' => by have := Q_own4.out q hq; simp at hq'; omega)
    have sG0 := G.size
    clear G
    clear V_w7
    have S_w7' : w7.heap.size + 0 ≤ w7'.heap.size := by omega
    clear sG0
    have e_b := B_b.all11
    have e_r := B_r.all11
    have f_r := B_r.frz11
    go_wp2
    clear e_b e_r f_r
    refine Exists.elim (B_r.row11 (.int .i64 a.P) (.int .i64 a.party) (.int .i64 a.input) (.int .i64 a.mask) (.int .i64 a.delta) (.slice y.sa y.sn y.sc) (.slice y.ka y.kn y.kc) (.int .i64 (a.step + 1)) (.slice a7 (y.hn + 1) c7) (.int .i64 1) (.int .i64 ((th + b0) % a.P))) (fun w8' q => ?_)
    rw [q.1]; replace B_r := q.2.1; have G := q.2.2; clear q
    have V_w8' := (V_w7').trans (G.below (V_w7').size (fun q hq => by have := (V_w7').size; simp at hq; omega))
    replace B_a := B_a.only G (by first | (simp; done) | (simp; omega))
    replace B_m := B_m.only G (by first | (simp; done) | (simp; omega))
    replace B_b := B_b.only G (by first | (simp; done) | (simp; omega))
    replace o5 := o5.only G (fun q hq hq' => by have := Q_o5.out q hq; simp at hq'; omega)
    replace o6 := o6.only G (fun q hq hq' => by have := Q_o6.out q hq; simp at hq'; omega)
    replace own4 := own4.only G (fun q hq hq' => by have := Q_own4.out q hq; simp at hq'; omega)
    have sG0 := G.size
    clear G
    clear V_w7'
    have S_w8' : w7'.heap.size + 0 ≤ w8'.heap.size := by omega
    clear sG0
    have e_r := B_r.all11
    exact bodyPost_ret (v := .agg #[.int .i64 a.P, .int .i64 a.party, .int .i64 a.input, .int .i64 a.mask, .int .i64 a.delta, .slice y.sa y.sn y.sc, .slice y.ka y.kn y.kc, .int .i64 (a.step + 1), .slice a7 (y.hn + 1) c7, .int .i64 1, .int .i64 ((th + b0) % a.P)]) (by simp [results, Tryd.results92, go_sem, e_r]) rfl ⟨⟨y.sa, y.sn, y.sc, y.ka, y.kn, y.kc, a7, y.hn + 1, c7⟩, _, rfl, ⟨OwnF.lower o5 (by omega), o6.lower (by omega), _, own4.lower (by omega), hd5.out, D56, E5, E6, rfl⟩, V_w8'⟩
end Go.Proofs.YtlmdckcohoddnaaDoor
namespace Go.Proofs.YtlmdckcohoddnaaDoor
open Go.RowKit
set_option maxHeartbeats 8000000 in
set_option maxRecDepth 100000 in
theorem ptSums_any (a : Pl) (x : PlX) (w : World) (h : PlR w x a.shares a.keys a.heard) (hN : PlN a) (hs : 2 ≤ a.step) :
    Calls Tryd.prog 141 #[.agg #[.int .i64 a.P, .int .i64 a.party, .int .i64 a.input, .int .i64 a.mask, .int .i64 a.delta, .slice x.sa x.sn x.sc, .slice x.ka x.kn x.kc, .int .i64 a.step, .slice x.ha x.hn x.hc, .int .i64 a.status, .int .i64 a.out]] w fun e w' => e = .returned (.tuple #[.int .i64 (dI a), .int .i64 (eI a)]) ∧ Below w.heap.size w w' := by
  have hp1 := hN.p1
  have hp2 := hN.p2
  have hlen := hN.hl
  have hd0 := (hN.hb 1 (by omega)).2 0 (by decide)
  have hd2 := (hN.hb 1 (by omega)).2 2 (by decide)
  have v0 := cmb_rng a.P (shV a) 1 0 (-1) 0 0 (mor a (f0 a)) (by omega)
  have v1 := cmb_rng a.P (shV a) 0 1 0 (-1) 0 (mor a (f1 a)) (by omega)
  change 0 ≤ seV0 a ∧ seV0 a ≤ a.P - 1 at v0
  change 0 ≤ seV1 a ∧ seV1 a ≤ a.P - 1 at v1
  have CF := Lib.hid (fun (W : World) (h2 : PlR W x a.shares a.keys a.heard) => ptSecond_any a x W h2 hN (by omega))
  obtain ⟨hhn, g, o, r, hx, e0, inn, hr⟩ := h.hd 1 (by omega)
  have hrl := (hN.hb 1 (by omega)).1
  rw [← hr] at hrl
  have hrl' : r.2.2.length = 4 := hrl
  obtain ⟨g2, o2, hr1, e1⟩ := inn.at 0 (by omega)
  obtain ⟨g3, o3, hr3, e3⟩ := inn.at 2 (by omega)
  rw [hr1] at hr3
  cases hr3
  have hv : r.2.2.getD 0 0 = hdI a 1 0 := by rw [hr]; rfl
  have hv3 : r.2.2.getD 2 0 = hdI a 1 2 := by rw [hr]; rfl
  rw [hv] at e1
  rw [hv3] at e3
  rw [hr1, hrl'] at e0
  have hnp : (1 : Int) < (x.hn : Int) := by omega
  have LH := Lib.hid h
  clear hr hrl hrl' hr1 hv hv3 inn hhn hlen hN hs h
  simp only [Nat.add_zero] at e1
  obtain ⟨x_sa, x_sn, x_sc, x_ka, x_kn, x_kc, x_ha, x_hn, x_hc⟩ := x
  dsimp only at *
  subst hx
  have HD : Hid ((seV0 a + hdI a 1 0) % a.P = dI a) := Lib.hid rfl
  have HE : Hid ((seV1 a + hdI a 1 2) % a.P = eI a) := Lib.hid rfl
  generalize dI a = D at *
  generalize eI a = EE at *
  generalize hdI a 1 0 = y0 at *
  generalize hdI a 1 2 = y2 at *
  generalize seV0 a = z0 at *
  generalize seV1 a = z1 at *
  generalize seT0 a = s0 at *
  generalize seT1 a = s1 at *
  have t1 : IntKind.i64.wrap (z0 + y0) = z0 + y0 := IntWalk.i64_in _ (by omega)
  have t2 : IntKind.i64.wrap (z1 + y2) = z1 + y2 := IntWalk.i64_in _ (by omega)
  have t3 : (z0 + y0).tmod a.P = D := by rw [← HD.out]; exact Int.tmod_eq_emod_of_nonneg (by omega)
  have t4 : (z1 + y2).tmod a.P = EE := by rw [← HE.out]; exact Int.tmod_eq_emod_of_nonneg (by omega)
  have r1 : 0 ≤ D ∧ D ≤ a.P - 1 := by rw [← HD.out]; exact emod_rng _ _ (by omega)
  have r2 : 0 ≤ EE ∧ EE ≤ a.P - 1 := by rw [← HE.out]; exact emod_rng _ _ (by omega)
  have t5 : IntKind.i64.wrap D = D := IntWalk.i64_in _ (by omega)
  have t6 : IntKind.i64.wrap EE = EE := IntWalk.i64_in _ (by omega)
  have t7 : (a.P == 0) = false := by simp; omega
  have t8 : (a.P = 0) = False := by simp; omega
  clear HD HE hd0 hd2 v0 v1
  go_enter Tryd.func141, Tryd.ntmps141
  go_wp2_with fail
  refine Exists.elim (Blk.new_ w (b := w.heap.size) rfl 31 #[.int .i64 a.P, .int .i64 a.party, .int .i64 a.input, .int .i64 a.mask, .int .i64 a.delta, .slice x_sa x_sn x_sc, .slice x_ka x_kn x_kc, .int .i64 a.step, .slice (some ⟨g, o, none⟩) x_hn x_hc, .int .i64 a.status, .int .i64 a.out]) (fun w1' q => ?_)
  rw [q.1]; have B_a := q.2.1; have s_w1' := q.2.2.1; have u_w1' := q.2.2.2; clear q
  have S_w1' : w.heap.size + 1 ≤ w1'.heap.size := Nat.le_of_eq s_w1'.symm
  have V_w1' := (Below.refl w.heap.size w).trans (u_w1'.mono ((Below.refl w.heap.size w)).size)
  clear u_w1' s_w1'
  refine (CF.out _ (LH.out.below V_w1')).mono ?_
  rintro e w2' ⟨bf, cf, rfl, hf, u_w2'⟩
  replace B_a := B_a.below u_w2'
  have S_w2' := u_w2'.size
  have V_w2' : Below w.heap.size w w2' := V_w1'.trans (u_w2'.mono V_w1'.size)
  clear V_w1'
  clear u_w2'
  obtain ⟨gf, of, rfl, hfc⟩ := hf.at (by omega)
  have c0 : w2'.cell? ⟨gf, of, none⟩ = some (.int .i64 z0) := hfc 0 (by omega)
  have c2 : w2'.cell? ⟨gf, of + 2, none⟩ = some (.int .i64 z1) := hfc 2 (by omega)
  clear hfc hf
  have e_a_0 := B_a.a11_0
  have e_a_1 := B_a.a11_1
  have e_a_2 := B_a.a11_2
  have e_a_3 := B_a.a11_3
  have e_a_4 := B_a.a11_4
  have e_a_5 := B_a.a11_5
  have e_a_6 := B_a.a11_6
  have e_a_7 := B_a.a11_7
  have e_a_8 := B_a.a11_8
  have e_a_9 := B_a.a11_9
  have e_a_10 := B_a.a11_10
  have k0 := keepC V_w2' e0
  have k1 := keepC V_w2' e1
  have k3 := keepC V_w2' e3
  go_wp2
  first | (go_quiet (fail); go_wp2) | skip
  go_ret2
  first | exact ⟨rfl, V_w2'⟩ | exact ⟨rfl, below_drewN V_w2' _⟩
set_option maxHeartbeats 16000000 in
set_option maxRecDepth 100000 in
theorem ptThird_any (a : Pl) (x : PlX) (w : World) (h : PlR w x a.shares a.keys a.heard) (hN : PlN a) (hs : 2 ≤ a.step) :
    Calls Tryd.prog 122 #[.agg #[.int .i64 a.P, .int .i64 a.party, .int .i64 a.input, .int .i64 a.mask, .int .i64 a.delta, .slice x.sa x.sn x.sc, .slice x.ka x.kn x.kc, .int .i64 a.step, .slice x.ha x.hn x.hc, .int .i64 a.status, .int .i64 a.out]] w fun e w' => e = .returned (.agg #[.int .i64 (thV a), .int .i64 (thT a)]) ∧ Below w.heap.size w w' := by
  have hp1 := hN.p1
  have hp2 := hN.p2
  have rd := dI_rng hN
  have re := eI_rng hN
  have m1 : 0 ≤ dI a * eI a := Int.mul_nonneg rd.1 re.1
  have m2 : dI a * eI a ≤ 1000 * 1000 := Int.mul_le_mul (by omega) (by omega) re.1 (by omega)
  have CF := Lib.hid (fun (W : World) (h2 : PlR W x a.shares a.keys a.heard) => ptSums_any a x W h2 hN hs)
  have X1r := emod_rng (shV a 4 + dI a * shV a 3) a.P (by omega)
  have Y1r := emod_rng (shT a 4 + dI a * shT a 3) a.P (by omega)
  have X2r := emod_rng ((shV a 4 + dI a * shV a 3) % a.P + eI a * shV a 2) a.P (by omega)
  have D2r := emod_rng (dI a * eI a) a.P (by omega)
  have K1 := Lib.hid (fun (W : World) => tgAdd_any a.P (shV a 4) (shT a 4) (shV a 3) (shT a 3) (dI a) W (by omega) (by omega) (hN.sv 4 (by omega)) (hN.st 4 (by omega)) (hN.sv 3 (by omega)) (hN.st 3 (by omega)) rd)
  have K2 := Lib.hid (fun (W : World) => tgAdd_any a.P ((shV a 4 + dI a * shV a 3) % a.P) ((shT a 4 + dI a * shT a 3) % a.P) (shV a 2) (shT a 2) (eI a) W (by omega) (by omega) X1r Y1r (hN.sv 2 (by omega)) (hN.st 2 (by omega)) re)
  have K3 := Lib.hid (fun (W : World) => (show Calls Tryd.prog 143 #[.agg #[.int .i64 a.P, .int .i64 a.party, .int .i64 a.input, .int .i64 a.mask, .int .i64 a.delta, .slice x.sa x.sn x.sc, .slice x.ka x.kn x.kc, .int .i64 a.step, .slice x.ha x.hn x.hc, .int .i64 a.status, .int .i64 a.out], .agg #[.int .i64 (((shV a 4 + dI a * shV a 3) % a.P + eI a * shV a 2) % a.P), .int .i64 (((shT a 4 + dI a * shT a 3) % a.P + eI a * shT a 2) % a.P)], .int .i64 (dI a * eI a % a.P)] W fun e w' => e = .returned (.agg #[.int .i64 (thV a), .int .i64 (thT a)]) ∧ Below W.heap.size W w' by rw [← thV_eq hN, ← thT_eq]; exact ptShift_any a x _ _ _ W hN (by omega) (by omega)))
  have t1 : IntKind.i64.wrap (dI a * eI a) = dI a * eI a := IntWalk.i64_in _ (by omega)
  have t2 : (dI a * eI a).tmod a.P = dI a * eI a % a.P := Int.tmod_eq_emod_of_nonneg (by omega)
  have t3 : IntKind.i64.wrap (dI a * eI a % a.P) = dI a * eI a % a.P := IntWalk.i64_in _ (by omega)
  have t7 : (a.P == 0) = false := by simp; omega
  have t8 : (a.P = 0) = False := by simp; omega
  have LH := Lib.hid h
  obtain ⟨hS, _⟩ := h
  have hs5 : x.sn = 5 := by have := hS.len; have := hN.sl; omega
  obtain ⟨gs, os, hsa, hc⟩ := hS.at (by omega)
  have y4 : w.cell? ⟨gs, os + 4, none⟩ = some (.int .i64 (shV a 2)) := hc 4 (by omega)
  have y5 : w.cell? ⟨gs, os + 5, none⟩ = some (.int .i64 (shT a 2)) := hc 5 (by omega)
  have y6 : w.cell? ⟨gs, os + 6, none⟩ = some (.int .i64 (shV a 3)) := hc 6 (by omega)
  have y7 : w.cell? ⟨gs, os + 7, none⟩ = some (.int .i64 (shT a 3)) := hc 7 (by omega)
  have y8 : w.cell? ⟨gs, os + 8, none⟩ = some (.int .i64 (shV a 4)) := hc 8 (by omega)
  have y9 : w.cell? ⟨gs, os + 9, none⟩ = some (.int .i64 (shT a 4)) := hc 9 (by omega)
  clear hc hS hN hs X1r Y1r X2r D2r m1 m2 rd re
  obtain ⟨x_sa, x_sn, x_sc, x_ka, x_kn, x_kc, x_ha, x_hn, x_hc⟩ := x
  dsimp only at *
  subst hsa
  subst hs5
  generalize dI a * eI a % a.P = DE at *
  generalize shV a 4 = v4 at *
  generalize shT a 4 = w4 at *
  generalize shV a 3 = v3 at *
  generalize shT a 3 = w3 at *
  generalize shV a 2 = v2 at *
  generalize shT a 2 = w2 at *
  generalize (v4 + dI a * v3) % a.P = X1 at *
  generalize (w4 + dI a * w3) % a.P = Y1 at *
  generalize (X1 + eI a * v2) % a.P = X2 at *
  generalize (Y1 + eI a * w2) % a.P = Y2 at *
  generalize thV a = zv at *
  generalize thT a = zt at *
  generalize dI a = D at *
  generalize eI a = EE at *
  go_enter Tryd.func122, Tryd.ntmps122
  go_wp2_with fail
  refine Exists.elim (Blk.new_ w (b := w.heap.size) rfl 31 #[.int .i64 a.P, .int .i64 a.party, .int .i64 a.input, .int .i64 a.mask, .int .i64 a.delta, .slice (some ⟨gs, os, none⟩) 5 x_sc, .slice x_ka x_kn x_kc, .int .i64 a.step, .slice x_ha x_hn x_hc, .int .i64 a.status, .int .i64 a.out]) (fun w1_a0' q => ?_)
  rw [q.1]; have B_a := q.2.1; have s_w1_a0' := q.2.2.1; have u_w1_a0' := q.2.2.2; clear q
  refine Exists.elim (Blk.new_ w1_a0' (b := w.heap.size + 1) s_w1_a0' 81 #[.int .i64 0, .int .i64 0]) (fun w1' q => ?_)
  rw [q.1]; have B_r := q.2.1; have s_w1' := q.2.2.1; have u_w1' := q.2.2.2; clear q
  replace B_a := (B_a.below u_w1')
  have U := (u_w1_a0'.trans (u_w1'.mono u_w1_a0'.size))
  have S_w1' : w.heap.size + 2 ≤ w1'.heap.size := Nat.le_of_eq s_w1'.symm
  have V_w1' := (Below.refl w.heap.size w).trans (U.mono ((Below.refl w.heap.size w)).size)
  clear u_w1_a0' u_w1' s_w1_a0' s_w1' U
  refine (CF.out _ (LH.out.below V_w1')).mono ?_
  rintro e w2' ⟨rfl, u_w2'⟩
  replace B_a := B_a.below u_w2'
  replace B_r := B_r.below u_w2'
  have S_w2' := u_w2'.size
  have V_w2' : Below w.heap.size w w2' := V_w1'.trans (u_w2'.mono V_w1'.size)
  clear V_w1'
  clear u_w2'
  go_wp2
  have SB := V_w2'.size
  have e_a_0 := B_a.a11_0
  have e_a_1 := B_a.a11_1
  have e_a_2 := B_a.a11_2
  have e_a_3 := B_a.a11_3
  have e_a_4 := B_a.a11_4
  have e_a_5 := B_a.a11_5
  have e_a_6 := B_a.a11_6
  have e_a_7 := B_a.a11_7
  have e_a_8 := B_a.a11_8
  have e_a_9 := B_a.a11_9
  have e_a_10 := B_a.a11_10
  have p6 := keepC V_w2' y6
  have p7 := keepC V_w2' y7
  have p8 := keepC V_w2' y8
  have p9 := keepC V_w2' y9
  go_region_held3 (fun W => W.cell? ⟨w.heap.size, 0, none⟩ = some (.int .i64 a.P) ∧ W.cell? ⟨w.heap.size, 1, none⟩ = some (.int .i64 a.party) ∧ W.cell? ⟨w.heap.size, 2, none⟩ = some (.int .i64 a.input) ∧ W.cell? ⟨w.heap.size, 3, none⟩ = some (.int .i64 a.mask) ∧ W.cell? ⟨w.heap.size, 4, none⟩ = some (.int .i64 a.delta) ∧ W.cell? ⟨w.heap.size, 5, none⟩ = some (.slice (some ⟨gs, os, none⟩) 5 x_sc) ∧ W.cell? ⟨w.heap.size, 6, none⟩ = some (.slice x_ka x_kn x_kc) ∧ W.cell? ⟨w.heap.size, 7, none⟩ = some (.int .i64 a.step) ∧ W.cell? ⟨w.heap.size, 8, none⟩ = some (.slice x_ha x_hn x_hc) ∧ W.cell? ⟨w.heap.size, 9, none⟩ = some (.int .i64 a.status) ∧ W.cell? ⟨w.heap.size, 10, none⟩ = some (.int .i64 a.out) ∧ W.cell? ⟨gs, os + 8, none⟩ = some (.int .i64 v4) ∧ W.cell? ⟨gs, os + 9, none⟩ = some (.int .i64 w4) ∧ W.cell? ⟨gs, os + 6, none⟩ = some (.int .i64 v3) ∧ W.cell? ⟨gs, os + 7, none⟩ = some (.int .i64 w3))
    (first | exact ⟨e_a, p8, p9, p6, p7⟩ | exact ⟨keepA _ e_a_0, keepA _ e_a_1, keepA _ e_a_2, keepA _ e_a_3, keepA _ e_a_4, keepA _ e_a_5, keepA _ e_a_6, keepA _ e_a_7, keepA _ e_a_8, keepA _ e_a_9, keepA _ e_a_10, keepA _ p8, keepA _ p9, keepA _ p6, keepA _ p7⟩ | exact ⟨keepC u (keepA _ e_a_0), keepC u (keepA _ e_a_1), keepC u (keepA _ e_a_2), keepC u (keepA _ e_a_3), keepC u (keepA _ e_a_4), keepC u (keepA _ e_a_5), keepC u (keepA _ e_a_6), keepC u (keepA _ e_a_7), keepC u (keepA _ e_a_8), keepC u (keepA _ e_a_9), keepC u (keepA _ e_a_10), keepC u (keepA _ p8), keepC u (keepA _ p9), keepC u (keepA _ p6), keepC u (keepA _ p7)⟩ | exact ⟨keepC u e_a_0, keepC u e_a_1, keepC u e_a_2, keepC u e_a_3, keepC u e_a_4, keepC u e_a_5, keepC u e_a_6, keepC u e_a_7, keepC u e_a_8, keepC u e_a_9, keepC u e_a_10, keepC u p8, keepC u p9, keepC u p6, keepC u p7⟩ | exact ⟨keepA _ (keepC u e_a_0), keepA _ (keepC u e_a_1), keepA _ (keepC u e_a_2), keepA _ (keepC u e_a_3), keepA _ (keepC u e_a_4), keepA _ (keepC u e_a_5), keepA _ (keepC u e_a_6), keepA _ (keepC u e_a_7), keepA _ (keepC u e_a_8), keepA _ (keepC u e_a_9), keepA _ (keepC u e_a_10), keepA _ (keepC u p8), keepA _ (keepC u p9), keepA _ (keepC u p6), keepA _ (keepC u p7)⟩ | exact ⟨keepS e_a_0 _ _ (keepS e_a_0 _ _ (keepC u (keepA _ e_a_0))), keepS e_a_1 _ _ (keepS e_a_1 _ _ (keepC u (keepA _ e_a_1))), keepS e_a_2 _ _ (keepS e_a_2 _ _ (keepC u (keepA _ e_a_2))), keepS e_a_3 _ _ (keepS e_a_3 _ _ (keepC u (keepA _ e_a_3))), keepS e_a_4 _ _ (keepS e_a_4 _ _ (keepC u (keepA _ e_a_4))), keepS e_a_5 _ _ (keepS e_a_5 _ _ (keepC u (keepA _ e_a_5))), keepS e_a_6 _ _ (keepS e_a_6 _ _ (keepC u (keepA _ e_a_6))), keepS e_a_7 _ _ (keepS e_a_7 _ _ (keepC u (keepA _ e_a_7))), keepS e_a_8 _ _ (keepS e_a_8 _ _ (keepC u (keepA _ e_a_8))), keepS e_a_9 _ _ (keepS e_a_9 _ _ (keepC u (keepA _ e_a_9))), keepS e_a_10 _ _ (keepS e_a_10 _ _ (keepC u (keepA _ e_a_10))), keepS p8 _ _ (keepS p8 _ _ (keepC u (keepA _ p8))), keepS p9 _ _ (keepS p9 _ _ (keepC u (keepA _ p9))), keepS p6 _ _ (keepS p6 _ _ (keepC u (keepA _ p6))), keepS p7 _ _ (keepS p7 _ _ (keepC u (keepA _ p7)))⟩ | go_keep)
    (first | (go_at_call 142; refine (K1.out _).mono ?_; rintro e wz ⟨rfl, u⟩; have BO : Blk wz w2'.heap.size 81 #[.int .i64 0, .int .i64 0] := Blk.below (Blk.new w2' 81 #[.int .i64 0, .int .i64 0]).drew u; have bo0 : wz.cell? ⟨w2'.heap.size, 0, none⟩ = some (.int .i64 0) := BO.cell 0; have bf0 : wz.frozen? ⟨w2'.heap.size, 0, none⟩ = false := BO.frozen 0; have bo1 : wz.cell? ⟨w2'.heap.size, 1, none⟩ = some (.int .i64 0) := BO.cell 1; have bf1 : wz.frozen? ⟨w2'.heap.size, 1, none⟩ = false := BO.frozen 1) | (go_at_call 142; refine (K1.out _).mono ?_; rintro e wz ⟨rfl, u⟩))
  all_goals first
    | (have u1 : Below w2'.heap.size w2' wz := ((Below.refl _ w2').alloc (Nat.le_refl _) (.cells #[.int .i64 0, .int .i64 0] 81)).drew.trans (u.mono (by simp))
       have G : Only [w2'.heap.size] wz ((wz.setCell ⟨w2'.heap.size, 0, none⟩ (.int .i64 X1)).setCell ⟨w2'.heap.size, 1, none⟩ (.int .i64 Y1)) := (((Only.refl [w2'.heap.size] wz).setCell ⟨w2'.heap.size, 0, none⟩ (.int .i64 X1) (by simp)).setCell ⟨w2'.heap.size, 1, none⟩ (.int .i64 Y1) (by simp))
       have hV : Below w2'.heap.size w2' ((wz.setCell ⟨w2'.heap.size, 0, none⟩ (.int .i64 X1)).setCell ⟨w2'.heap.size, 1, none⟩ (.int .i64 Y1)) := u1.trans (G.below u1.size (fun q hq => by simp at hq; omega))
       have B_y : Blk ((wz.setCell ⟨w2'.heap.size, 0, none⟩ (.int .i64 X1)).setCell ⟨w2'.heap.size, 1, none⟩ (.int .i64 Y1)) w2'.heap.size 81 #[.int .i64 X1, .int .i64 Y1] := ((BO.set_ 0 (.int .i64 X1)).set_ 1 (.int .i64 Y1))
       have hob : w2'.heap.size ≤ w2'.heap.size := Nat.le_refl _
       clear G u1 u BO bo0 bf0 bo1 bf1
       generalize ((wz.setCell ⟨w2'.heap.size, 0, none⟩ (.int .i64 X1)).setCell ⟨w2'.heap.size, 1, none⟩ (.int .i64 Y1)) = WW at *
       generalize hob' : w2'.heap.size = ob at B_y ⊢
       rw [hob'] at hob
       replace hob : w2'.heap.size ≤ ob := by omega
       clear hob')
    | (have u1 : Below w2'.heap.size w2' wz := (Below.refl _ w2').drew.trans u
       have hV : Below w2'.heap.size w2' (wz.alloc (.cells #[.int .i64 X1, .int .i64 Y1] 81)) := u1.alloc u1.size _
       have B_y : Blk (wz.alloc (.cells #[.int .i64 X1, .int .i64 Y1] 81)) wz.heap.size 81 #[.int .i64 X1, .int .i64 Y1] := Blk.new _ _ _
       have hob : w2'.heap.size ≤ wz.heap.size := u1.size
       clear u1 u
       generalize wz.alloc (.cells #[.int .i64 X1, .int .i64 Y1] 81) = WW at *
       generalize wz.heap.size = ob at *)
  all_goals
    clear p6 p7 p8 p9
    clear e_a_0 e_a_1 e_a_2 e_a_3 e_a_4 e_a_5 e_a_6 e_a_7 e_a_8 e_a_9 e_a_10
    replace B_a := B_a.below hV
    replace B_r := B_r.below hV
    have S_WW := hV.size
    have V_WW : Below w.heap.size w WW := V_w2'.trans (hV.mono V_w2'.size)
    clear V_w2'
    clear hV
    have hob2 : w.heap.size + 2 ≤ ob := by have := hob; have := S_w1'; have := S_w2'; omega
    have e_a_0 := B_a.a11_0
    have e_a_1 := B_a.a11_1
    have e_a_2 := B_a.a11_2
    have e_a_3 := B_a.a11_3
    have e_a_4 := B_a.a11_4
    have e_a_5 := B_a.a11_5
    have e_a_6 := B_a.a11_6
    have e_a_7 := B_a.a11_7
    have e_a_8 := B_a.a11_8
    have e_a_9 := B_a.a11_9
    have e_a_10 := B_a.a11_10
    have e_y := B_y.all2
    have p4 := keepC V_WW y4
    have p5 := keepC V_WW y5
    go_wp2
    refine wp_region_still_tail 8 (by kernel_rfl) (by kernel_rfl) ?_
    simp only [List.take_succ_cons, List.take_zero, List.drop_succ_cons, List.drop_zero]
    repeat still_step
    refine wpStill_nil ?_
    change wpList _ _ _ _ _ WW.drew
    clear e_a_0 e_a_1 e_a_2 e_a_3 e_a_4 e_a_5 e_a_6 e_a_7 e_a_8 e_a_9 e_a_10 e_y
    have V_w3'_1 : Below w.heap.size w WW.drew := (V_WW).drew
    replace B_a := B_a.drew
    replace B_r := B_r.drew
    replace B_y := B_y.drew
    have S_w3' : WW.heap.size + 0 ≤ WW.drew.heap.size := by first | (simp; done) | (simp; omega) | (simp [World.setCell]; done) | (simp [World.setCell]; omega)
    generalize WW.drew = w3' at *
    have V_w3' : Below w.heap.size w w3' := V_w3'_1
    clear V_WW
    clear V_w3'_1
    clear p4 p5
    go_wp2_with fail
    refine (K2.out _).mono ?_
    rintro e w4' ⟨rfl, u_w4'⟩
    replace B_a := B_a.below u_w4'
    replace B_r := B_r.below u_w4'
    replace B_y := B_y.below u_w4'
    have S_w4' := u_w4'.size
    have V_w4' : Below w.heap.size w w4' := V_w3'.trans (u_w4'.mono V_w3'.size)
    clear V_w3'
    clear u_w4'
    have e_y := B_y.all2
    have f_y := B_y.frz2
    go_wp2
    clear e_y f_y
    refine Exists.elim (B_y.row2 (.int .i64 X2) (.int .i64 Y2)) (fun w5' q => ?_)
    rw [q.1]; replace B_y := q.2.1; have G := q.2.2; clear q
    have V_w5' := (V_w4').trans (G.below (V_w4').size (fun q hq => by have := (V_w4').size; simp at hq; omega))
    replace B_a := B_a.only G (by first | (simp; done) | (simp; omega))
    replace B_r := B_r.only G (by first | (simp; done) | (simp; omega))
    have sG0 := G.size
    clear G
    clear V_w4'
    have S_w5' : w4'.heap.size + 0 ≤ w5'.heap.size := by omega
    clear sG0
    have e_a_0 := B_a.a11_0
    have e_a_1 := B_a.a11_1
    have e_a_2 := B_a.a11_2
    have e_a_3 := B_a.a11_3
    have e_a_4 := B_a.a11_4
    have e_a_5 := B_a.a11_5
    have e_a_6 := B_a.a11_6
    have e_a_7 := B_a.a11_7
    have e_a_8 := B_a.a11_8
    have e_a_9 := B_a.a11_9
    have e_a_10 := B_a.a11_10
    have e_y := B_y.all2
    go_wp2
    refine wp_region_still_tail 8 (by kernel_rfl) (by kernel_rfl) ?_
    simp only [List.take_succ_cons, List.take_zero, List.drop_succ_cons, List.drop_zero]
    repeat still_step
    refine wpStill_nil ?_
    change wpList _ _ _ _ _ w5'.drew
    clear e_a_0 e_a_1 e_a_2 e_a_3 e_a_4 e_a_5 e_a_6 e_a_7 e_a_8 e_a_9 e_a_10 e_y
    have V_w6'_1 : Below w.heap.size w w5'.drew := (V_w5').drew
    replace B_a := B_a.drew
    replace B_r := B_r.drew
    replace B_y := B_y.drew
    have S_w6' : w5'.heap.size + 0 ≤ w5'.drew.heap.size := by first | (simp; done) | (simp; omega) | (simp [World.setCell]; done) | (simp [World.setCell]; omega)
    generalize w5'.drew = w6' at *
    have V_w6' : Below w.heap.size w w6' := V_w6'_1
    clear V_w5'
    clear V_w6'_1
    go_wp2_with fail
    refine (K3.out _).mono ?_
    rintro e w7' ⟨rfl, u_w7'⟩
    replace B_a := B_a.below u_w7'
    replace B_r := B_r.below u_w7'
    replace B_y := B_y.below u_w7'
    have S_w7' := u_w7'.size
    have V_w7' : Below w.heap.size w w7' := V_w6'.trans (u_w7'.mono V_w6'.size)
    clear V_w6'
    clear u_w7'
    have e_r := B_r.all2
    have f_r := B_r.frz2
    go_wp2
    clear e_r f_r
    refine Exists.elim (B_r.row2 (.int .i64 zv) (.int .i64 zt)) (fun w8' q => ?_)
    rw [q.1]; replace B_r := q.2.1; have G := q.2.2; clear q
    have V_w8' := (V_w7').trans (G.below (V_w7').size (fun q hq => by have := (V_w7').size; simp at hq; omega))
    replace B_a := B_a.only G (by first | (simp; done) | (simp; omega))
    replace B_y := B_y.only G (by first | (simp; done) | (simp; omega))
    have sG0 := G.size
    clear G
    clear V_w7'
    have S_w8' : w7'.heap.size + 0 ≤ w8'.heap.size := by omega
    clear sG0
    have e_r := B_r.all2
    exact bodyPost_ret (v := .agg #[.int .i64 zv, .int .i64 zt]) (by simp [results, Tryd.results122, go_sem, e_r]) rfl ⟨rfl, V_w8'⟩
end Go.Proofs.YtlmdckcohoddnaaDoor
