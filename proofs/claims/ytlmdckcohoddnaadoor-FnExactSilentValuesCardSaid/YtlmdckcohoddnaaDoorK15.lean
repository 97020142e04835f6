/- Lemmas and walks that the claim's proof rests on, part 15. -/
import Derived.Test.YtlmdckcohoddnaaDoorK5
import Derived.Test.YtlmdckcohoddnaaDoorK10
import Derived.Test.YtlmdckcohoddnaaDoorK11
import Derived.Test.YtlmdckcohoddnaaDoorK13
import Derived.Test.YtlmdckcohoddnaaDoorK14
namespace Go.Proofs.YtlmdckcohoddnaaDoor
open Go.RowKit
set_option maxHeartbeats 16000000 in
set_option maxRecDepth 100000 in
theorem take_end (a : Pl) (x : PlX) (fr st : Int) (b : Option Addr) (n c : Nat) (body : List Int) (w : World) (h : PlR w x a.shares a.keys a.heard) (hM : Ints w b n c body) (hT : Tbl w) (hN : PlN a) (hs : a.step ≤ 2) (hacc : accB a fr st body = true) (h2 : a.step = 2) :
    Calls Tryd.prog 92 #[.agg #[.int .i64 a.P, .int .i64 a.party, .int .i64 a.input, .int .i64 a.mask, .int .i64 a.delta, .slice x.sa x.sn x.sc, .slice x.ka x.kn x.kc, .int .i64 a.step, .slice x.ha x.hn x.hc, .int .i64 a.status, .int .i64 a.out], .agg #[.int .i64 fr, .int .i64 st, .slice b n c]] w fun e w' => ∃ y F, e = .returned (.agg #[.int .i64 a.P, .int .i64 a.party, .int .i64 a.input, .int .i64 a.mask, .int .i64 a.delta, .slice y.sa y.sn y.sc, .slice y.ka y.kn y.kc, .int .i64 (a.step + 1), .slice y.ha y.hn y.hc, .int .i64 1, .int .i64 ((thV a + body.getD 0 0) % a.P)]) ∧ PlO w' w.heap.size y a.shares a.keys (a.heard ++ [body]) F ∧ Below w.heap.size w w' := by
  have hnb := hM.len
  subst hnb
  obtain ⟨hbl, hbr⟩ := acc_parts hacc
  have CA := Lib.hid (fun (W : World) (h2 : PlR W x a.shares a.keys a.heard) (h3 : Ints W b body.length c body) (h4 : Tbl W) => accepts_any a x fr st b body.length c body W h2 h3 h4 hN hs)
  rw [hacc] at CA
  have CP := Lib.hid (fun (W : World) (h2 : PlR W x a.shares a.keys a.heard) => copyPlayer_any a x W h2 hN)
  have LH := Lib.hid h
  have LM := Lib.hid hM
  have LX := Lib.hid hT
  have hst := hN.stp
  have hn4 : body.length ≤ 10000000 := by rw [hbl]; have := (blen_bd a.step.toNat).2; omega
  have t1 : IntKind.i64.wrap (a.step + 1) = a.step + 1 := IntWalk.i64_in _ (by omega)
  have hhl := hN.hl
  have hp1 := hN.p1
  have hp2 := hN.p2
  have hb2 : body.length = 2 := by rw [hbl, h2]; rfl
  obtain ⟨gm, om, hbm, hcm⟩ := hM.at 0 (by omega)
  subst hbm
  have hb0 := hbr _ (getD_mem body 0 (by omega))
  have hth : 0 ≤ thV a ∧ thV a ≤ a.P - 1 := cmb_rng _ _ _ _ _ _ _ _ (by omega)
  have t2 : IntKind.i64.wrap (thV a + body.getD 0 0) = thV a + body.getD 0 0 := IntWalk.i64_in _ (by omega)
  have CB := Lib.hid (fun (W : World) (h3 : PlR W x a.shares a.keys a.heard) => body_2 a x W h3 hN h2)
  have d1 : ((a.step == 2) : Bool) = true := by simpa using h2
  have hgm := World.block_lt_of_cell? w _ hcm
  have hlt0 : (0 : Int) < (body.length : Int) := by omega
  have hlt1 : 0 < body.length := by omega
  generalize thV a = th at *
  generalize body.getD 0 0 = b0 at *
  simp only [Nat.add_zero] at hcm
  replace hb2 := Lib.hid hb2
  have hst2 : a.step ≤ 2 := by omega
  replace h2 := Lib.hid h2
  clear h hM hT hs hN hacc hbl hbr
  go_enter Tryd.func92, Tryd.ntmps92
  go_wp2_with fail
  refine Exists.elim (Blk.new_ w (b := w.heap.size) rfl 31 #[.int .i64 a.P, .int .i64 a.party, .int .i64 a.input, .int .i64 a.mask, .int .i64 a.delta, .slice x.sa x.sn x.sc, .slice x.ka x.kn x.kc, .int .i64 a.step, .slice x.ha x.hn x.hc, .int .i64 a.status, .int .i64 a.out]) (fun w1_a0' q => ?_)
  rw [q.1]; have B_a := q.2.1; have s_w1_a0' := q.2.2.1; have u_w1_a0' := q.2.2.2; clear q
  refine Exists.elim (Blk.new_ w1_a0' (b := w.heap.size + 1) s_w1_a0' 44 #[.int .i64 fr, .int .i64 st, .slice (some ⟨gm, om, none⟩) body.length c]) (fun w1_a1' q => ?_)
  rw [q.1]; have B_m := q.2.1; have s_w1_a1' := q.2.2.1; have u_w1_a1' := q.2.2.2; clear q
  refine Exists.elim (Blk.new_ w1_a1' (b := w.heap.size + 2) s_w1_a1' 31 #[.int .i64 0, .int .i64 0, .int .i64 0, .int .i64 0, .int .i64 0, .slice none 0 0, .slice none 0 0, .int .i64 0, .slice none 0 0, .int .i64 0, .int .i64 0]) (fun w1' q => ?_)
  rw [q.1]; have B_r := q.2.1; have s_w1' := q.2.2.1; have u_w1' := q.2.2.2; clear q
  replace B_a := ((B_a.below u_w1_a1').below u_w1')
  replace B_m := (B_m.below u_w1')
  have U := (u_w1_a0'.trans ((u_w1_a1'.trans (u_w1'.mono u_w1_a1'.size)).mono u_w1_a0'.size))
  have S_w1' : w.heap.size + 3 ≤ w1'.heap.size := Nat.le_of_eq s_w1'.symm
  have V_w1' := (Below.refl w.heap.size w).trans (U.mono ((Below.refl w.heap.size w)).size)
  clear u_w1_a0' u_w1_a1' u_w1' s_w1_a0' s_w1_a1' s_w1' U
  refine (CP.out _ (LH.out.below V_w1')).mono ?_
  rintro e w2' ⟨y, F, rfl, o, u_w2'⟩
  replace B_a := B_a.below u_w2'
  replace B_m := B_m.below u_w2'
  replace B_r := B_r.below u_w2'
  have S_w2' := u_w2'.size
  have V_w2' : Below w.heap.size w w2' := V_w1'.trans (u_w2'.mono V_w1'.size)
  clear V_w1'
  clear u_w2'
  replace o := o.lower (b' := w.heap.size + 3) S_w1'
  have Q_o := Lib.hid o.feet
  go_upto_region 2 with fail
  refine Exists.elim (Blk.new_ w2' (b := w2'.heap.size) rfl 31 #[.int .i64 a.P, .int .i64 a.party, .int .i64 a.input, .int .i64 a.mask, .int .i64 a.delta, .slice y.sa y.sn y.sc, .slice y.ka y.kn y.kc, .int .i64 a.step, .slice y.ha y.hn y.hc, .int .i64 a.status, .int .i64 a.out]) (fun w3' q => ?_)
  rw [q.1]; have B_b := q.2.1; have s_w3' := q.2.2.1; have u_w3' := q.2.2.2; clear q
  replace B_a := B_a.below u_w3'
  replace B_m := B_m.below u_w3'
  replace B_r := B_r.below u_w3'
  replace o := o.below u_w3'
  have S_w3' : w2'.heap.size + 1 ≤ w3'.heap.size := Nat.le_of_eq s_w3'.symm
  have V_w3' := V_w2'.trans (u_w3'.mono (V_w2').size)
  clear u_w3' s_w3' V_w2'
  have e_a := B_a.all11
  have e_m := B_m.all3
  go_wp2_with fail
  clear e_a e_m
  refine (CA.out _ (LH.out.below V_w3') (LM.out.below V_w3') (LX.out.below V_w3')).mono ?_
  rintro e w4' ⟨rfl, u_w4'⟩
  replace B_a := B_a.below u_w4'
  replace B_m := B_m.below u_w4'
  replace B_r := B_r.below u_w4'
  replace B_b := B_b.below u_w4'
  replace o := o.below u_w4'
  have S_w4' := u_w4'.size
  have V_w4' : Below w.heap.size w w4' := V_w3'.trans (u_w4'.mono V_w3'.size)
  clear V_w3'
  clear u_w4'
  obtain ⟨o5, o6, rs, o8, hd, D56, D58, D68, rfl⟩ := o
  have Q_o5 := Lib.hid (fun q (hq : q ∈ foot y.sa y.sc) => Q_o.out q (List.mem_append_left _ hq))
  have Q_o6 := Lib.hid (fun q (hq : q ∈ foot y.ka y.kc) => Q_o.out q (List.mem_append_right _ (List.mem_append_left _ hq)))
  have Q_o8 := Lib.hid (fun q (hq : q ∈ feetSS y.ha y.hc rs) => Q_o.out q (List.mem_append_right _ (List.mem_append_right _ hq)))
  have hrl := o8.reads.len
  have hrn : y.hn ≤ 2 := by have : rs.length = a.heard.length := by rw [← hd, datas_len]
                            omega
  replace hd := Lib.hid hd
  have e_a := B_a.all11
  have e_m := B_m.all3
  have e_b_9 := B_b.a11_9
  have f_b_9 := B_b.frozen 9
  have e_b_10 := B_b.a11_10
  have f_b_10 := B_b.frozen 10
  go_wp2
  have m6 := keepC V_w4'.drew hcm
  have hR6 := (LH.out.below V_w4').drew
  refine wp_region_noPanic ?_
  refine wp_region_held_drew (S := (fun W => Blk W (w.heap.size) 31 #[.int .i64 a.P, .int .i64 a.party, .int .i64 a.input, .int .i64 a.mask, .int .i64 a.delta, .slice x.sa x.sn x.sc, .slice x.ka x.kn x.kc, .int .i64 a.step, .slice x.ha x.hn x.hc, .int .i64 a.status, .int .i64 a.out] ∧ Blk W (w.heap.size + 1) 44 #[.int .i64 fr, .int .i64 st, .slice (some ⟨gm, om, none⟩) body.length c] ∧ W.cell? ⟨gm, om, none⟩ = some (.int .i64 b0))) (by kernel_rfl) ?hS14 (fun hHeld => ?go14)
  case hS14 => exact ⟨B_a.drew, B_m.drew, m6⟩
  refine tk (i := 0) (oi := ⟨some 17, _, _, _, _, _⟩) (v := ?v0_15) hHeld rfl ?y0_15 ?r0_15
  case y0_15 => (intro w _; first | (go_simp; first | done | with_reducible rfl) | with_reducible rfl)
  (try simp only [pt_])
  refine tk (i := 1) (oi := ⟨some 18, _, _, _, _, _⟩) (v := ?v1_16) hHeld rfl ?y1_16 ?r1_16
  case y1_16 => (intro w hSw; obtain ⟨qS0, qS1, qS2⟩ := hSw; have cS0 := qS0.all11; have cS1 := qS1.all3; first | (go_simp; first | done | with_reducible rfl) | with_reducible rfl)
  (try simp only [pt_])
  refine tk (i := 2) (oi := ⟨some 19, _, _, _, _, _⟩) (v := ?v2_17) hHeld rfl ?y2_17 ?r2_17
  case y2_17 => (intro w hSw; obtain ⟨qS0, qS1, qS2⟩ := hSw; have cS0 := qS0.all11; have cS1 := qS1.all3; first | (go_simp; first | done | with_reducible rfl) | with_reducible rfl)
  (try simp only [pt_])
  refine tk (i := 6) (oi := ⟨some 23, _, _, _, _, _⟩) (v := ?v6_18) hHeld rfl ?y6_18 ?r6_18
  case y6_18 => (intro w _; first | (go_simp; first | done | with_reducible rfl) | with_reducible rfl)
  (try simp only [pt_])
  refine tk (i := 7) (oi := ⟨some 24, _, _, _, _, _⟩) (v := ?v7_19) hHeld rfl ?y7_19 ?r7_19
  case y7_19 => (intro w hSw; obtain ⟨qS0, qS1, qS2⟩ := hSw; have cS0 := qS0.all11; have cS1 := qS1.all3; first | (go_simp; first | done | with_reducible rfl) | with_reducible rfl)
  (try simp only [pt_])
  refine tk (i := 8) (oi := ⟨some 25, _, _, _, _, _⟩) (v := ?v8_20) hHeld rfl ?y8_20 ?r8_20
  case y8_20 => (intro w _; first | (go_simp; first | done | with_reducible rfl) | with_reducible rfl)
  (try simp only [pt_])
  refine tk (i := 9) (oi := ⟨some 26, _, _, _, _, _⟩) (v := ?v9_21) hHeld rfl ?y9_21 ?r9_21
  case y9_21 => (intro w hSw; obtain ⟨qS0, qS1, qS2⟩ := hSw; have cS0 := qS0.all11; have cS1 := qS1.all3; first | (go_simp; first | done | with_reducible rfl) | with_reducible rfl)
  (try simp only [pt_])
  refine tk (i := 12) (oi := ⟨some 29, _, _, _, _, _⟩) (v := ?v12_22) hHeld rfl ?y12_22 ?r12_22
  case y12_22 => (intro w _; first | (go_simp; first | done | with_reducible rfl) | with_reducible rfl)
  (try simp only [pt_])
  refine wpAnyH_ready (rs := [3]) (by kernel_rfl) (by simp) ?_
  refine AllReadyH.cons (o := ⟨some 20, _, _, _, _, _⟩) rfl (fun K hK => ?_) ?_
  go_simp
  refine (CB.out _ hR6).mono ?_
  rintro e wz ⟨b9, d9, rfl, o9, u9⟩
  obtain ⟨_, E9, _, _, v9, _, _⟩ := o9.at 0 (by omega)
  cases E9
  have A9 := Blk.below B_a.drew u9
  have M9 := Blk.below B_m.drew u9
  have B9 := Blk.below B_b.drew u9
  have m9 := keepC u9 m6
  have v9' : wz.cell? ⟨_, 0, none⟩ = some (.int .i64 th) := v9
  have p9 := B9.frozen 9
  have r9 := B9.cell 9
  have r10 := B9.cell 10
  have p10 := B9.frozen 10
  focus (try go_wp2_with fail)
  refine hK.out _ _ ?_ (fun hHeld => ?_)
  · (exact ⟨A9, M9, m9⟩)
  clear hK K
  (try simp only [pt_])
  refine tk (i := 4) (oi := ⟨some 21, _, _, _, _, _⟩) (v := ?v4_23) hHeld rfl ?y4_23 ?r4_23
  case y4_23 => (intro w _; first | (go_simp; first | done | with_reducible rfl) | with_reducible rfl)
  (try simp only [pt_])
  refine wpAnyH_ready (rs := [5]) (by kernel_rfl) (by simp) ?_
  refine AllReadyH.cons (o := ⟨some 22, _, _, _, _, _⟩) rfl (fun K hK => ?_) ?_
  go_simp
  refine hK.out _ _ ?_ (fun hHeld => ?_)
  · (exact ⟨A9, M9, m9⟩)
  clear hK K
  (try simp only [pt_])
  refine tk (i := 10) (oi := ⟨some 27, _, _, _, _, _⟩) (v := ?v10_24) hHeld rfl ?y10_24 ?r10_24
  case y10_24 => (intro w _; first | (go_simp; first | done | with_reducible rfl) | with_reducible rfl)
  (try simp only [pt_])
  refine wpAnyH_ready (rs := [11]) (by kernel_rfl) (by simp) ?_
  refine AllReadyH.cons (o := ⟨some 28, _, _, _, _, _⟩) rfl (fun K hK => ?_) ?_
  go_simp
  refine (mod_same _ _ _ (by omega) (by omega)).mono ?_
  rintro e wy ⟨rfl, hw⟩
  replace hw := hw.symm
  subst hw
  focus (try go_wp2_with fail)
  refine hK.out _ _ ?_ (fun hHeld => ?_)
  · (exact ⟨A9, M9, m9⟩)
  clear hK K
  (try simp only [pt_])
  refine wpAnyH_ready (rs := [13]) (by kernel_rfl) (by simp) ?_
  refine AllReadyH.cons (o := ⟨none, _, _, _, _, _⟩) rfl (fun K hK => ?_) ?_
  have G8 : Only [w2'.heap.size] wz (wz.setCell ⟨w2'.heap.size, 9, none⟩ (.int .i64 1)) := (Only.refl _ _).setCell ⟨w2'.heap.size, 9, none⟩ _ (by simp)
  have A8 := Blk.only A9 G8 (by simp; omega)
  have M8 := Blk.only M9 G8 (by simp; omega)
  have m8 : (wz.setCell ⟨w2'.heap.size, 9, none⟩ (.int .i64 1)).cell? ⟨gm, om, none⟩ = some (.int .i64 b0) := cellFarP m9 (show gm ≠ w2'.heap.size by omega)
  have B8 := B9.set_ 9 (.int .i64 1)
  have k7 := B8.frozen 10
  go_simp
  refine hK.out _ _ ?_ (fun hHeld => ?_)
  · (exact ⟨A8, M8, m8⟩)
  clear hK K
  (try simp only [pt_])
  refine tk (i := 14) (oi := ⟨some 30, _, _, _, _, _⟩) (v := ?v14_25) hHeld rfl ?y14_25 ?r14_25
  case y14_25 => (intro w _; first | (go_simp; first | done | with_reducible rfl) | with_reducible rfl)
  (try simp only [pt_])
  refine wpAnyH_ready (rs := [15]) (by kernel_rfl) (by simp) ?_
  refine AllReadyH.cons (o := ⟨none, _, _, _, _, _⟩) rfl (fun K hK => ?_) ?_
  go_simp
  refine hK.out _ _ ?_ (fun hHeld => ?_)
  · (exact ⟨Blk.only A8 ((Only.refl [w2'.heap.size] _).setCell ⟨w2'.heap.size, 10, none⟩ _ (by simp)) (by simp; omega), Blk.only M8 ((Only.refl [w2'.heap.size] _).setCell ⟨w2'.heap.size, 10, none⟩ _ (by simp)) (by simp; omega), cellFarP m8 (show gm ≠ w2'.heap.size by omega)⟩)
  clear hK K
  (try simp only [pt_])
  refine wpAnyH_done (by kernel_rfl) ?_ _
  refine NoPanic.normal ?_
  rotate_left 1
  exact AllReadyH.nil
  exact AllReadyH.nil
  exact AllReadyH.nil
  exact AllReadyH.nil
  exact AllReadyH.nil
  clear A9 M9 B9 m9 v9 v9' p9 p10 r9 r10 G8 A8 M8 m8 B8 k7 hR6 m6 o9
  clear e_a e_m e_b_9 f_b_9 e_b_10 f_b_10
  have uA : Below w4'.heap.size w4' wz := (Below.refl _ _).drew.trans u9
  clear u9
  replace B_a := B_a.below uA
  replace B_m := B_m.below uA
  replace B_r := B_r.below uA
  replace B_b := B_b.below uA
  replace o5 := o5.below uA
  replace o6 := o6.below uA
  replace o8 := o8.below uA
  have S_wz := uA.size
  have V_wz : Below w.heap.size w wz := V_w4'.trans (uA.mono V_w4'.size)
  clear V_w4'
  clear uA
  have g_1 : Only [w2'.heap.size] wz (wz.setCell ⟨w2'.heap.size, 9, none⟩ (.int .i64 1)) := (Only.refl _ _).setCell _ _ (by simp)
  replace B_b := B_b.set_ 9 (.int .i64 1)
  generalize wz.setCell ⟨w2'.heap.size, 9, none⟩ (.int .i64 1) = w5_1' at *
  have G := g_1
  clear g_1
  have g_2 : Only [w2'.heap.size] w5_1' (w5_1'.setCell ⟨w2'.heap.size, 10, none⟩ (.int .i64 ((th + b0) % a.P))) := (Only.refl _ _).setCell _ _ (by simp)
  replace B_b := B_b.set_ 10 (.int .i64 ((th + b0) % a.P))
  generalize w5_1'.setCell ⟨w2'.heap.size, 10, none⟩ (.int .i64 ((th + b0) % a.P)) = w5' at *
  replace G := G.trans g_2
  clear g_2
  simp only [List.setIfInBounds_toArray, List.set_cons_zero, List.set_cons_succ] at B_b
  have V_w5' := (V_wz).trans (G.below (V_wz).size (fun q hq => by have := (V_wz).size; simp at hq; omega))
  replace B_a := B_a.only G (by first | (simp; done) | (simp; omega))
  replace B_m := B_m.only G (by first | (simp; done) | (simp; omega))
  replace B_r := B_r.only G (by first | (simp; done) | (simp; omega))
  replace o5 := o5.only G (fun q hq hq' => by have := Q_o5.out q hq; simp at hq'; omega)
  replace o6 := o6.only G (fun q hq hq' => by have := Q_o6.out q hq; simp at hq'; omega)
  replace o8 := o8.only G (fun q hq hq' => by have := Q_o8.out q hq; simp at hq'; omega)
  have sG0 := G.size
  clear G
  clear V_wz
  have S_w5' : wz.heap.size + 0 ≤ w5'.heap.size := by omega
  clear sG0
  have NN : ∀ q, q ∈ foot y.ha y.hc → w.heap.size + 3 ≤ q ∧ q < w2'.heap.size := fun q hq => (Q_o8.out q (List.mem_append_left _ hq))
  have SL : w.heap.size + 3 ≤ w5'.drew.heap.size := (show w.heap.size + 3 ≤ w5'.heap.size by omega)
  have hM7 := (LM.out.below V_w5').below (Below.refl _ _).drew
  have e_a_7 := B_a.a11_7
  have e_m_2 := B_m.a3_2
  have e_b_8 := B_b.a11_8
  have f_b_8 := B_b.frozen 8
  have e_b_7 := B_b.a11_7
  have f_b_7 := B_b.frozen 7
  go_wp2
  refine wp_region_noPanic ?_
  refine wp_region_held_drew (S := (fun W => Blk W (w.heap.size) 31 #[.int .i64 a.P, .int .i64 a.party, .int .i64 a.input, .int .i64 a.mask, .int .i64 a.delta, .slice x.sa x.sn x.sc, .slice x.ka x.kn x.kc, .int .i64 a.step, .slice x.ha x.hn x.hc, .int .i64 a.status, .int .i64 a.out] ∧ Blk W (w.heap.size + 1) 44 #[.int .i64 fr, .int .i64 st, .slice (some ⟨gm, om, none⟩) body.length c])) (by kernel_rfl) ?hS26 (fun hHeld => ?go26)
  case hS26 => exact ⟨B_a.drew, B_m.drew⟩
  refine tk (i := 0) (oi := ⟨some 31, _, _, _, _, _⟩) (v := ?v0_27) hHeld rfl ?y0_27 ?r0_27
  case y0_27 => (intro w _; first | (go_simp; first | done | with_reducible rfl) | with_reducible rfl)
  (try simp only [pt_])
  refine tk (i := 2) (oi := ⟨some 33, _, _, _, _, _⟩) (v := ?v2_28) hHeld rfl ?y2_28 ?r2_28
  case y2_28 => (intro w _; first | (go_simp; first | done | with_reducible rfl) | with_reducible rfl)
  (try simp only [pt_])
  refine tk (i := 3) (oi := ⟨some 34, _, _, _, _, _⟩) (v := ?v3_29) hHeld rfl ?y3_29 ?r3_29
  case y3_29 => (intro w hSw; obtain ⟨qS0, qS1⟩ := hSw; have cS0 := qS0.all11; have cS1 := qS1.all3; first | (go_simp; first | done | with_reducible rfl) | with_reducible rfl)
  (try simp only [pt_])
  refine tk (i := 7) (oi := ⟨some 38, _, _, _, _, _⟩) (v := ?v7_30) hHeld rfl ?y7_30 ?r7_30
  case y7_30 => (intro w _; first | (go_simp; first | done | with_reducible rfl) | with_reducible rfl)
  (try simp only [pt_])
  refine tk (i := 8) (oi := ⟨some 39, _, _, _, _, _⟩) (v := ?v8_31) hHeld rfl ?y8_31 ?r8_31
  case y8_31 => (intro w hSw; obtain ⟨qS0, qS1⟩ := hSw; have cS0 := qS0.all11; have cS1 := qS1.all3; first | (go_simp; first | done | with_reducible rfl) | with_reducible rfl)
  (try simp only [pt_])
  refine tk (i := 9) (oi := ⟨some 40, _, _, _, _, _⟩) (v := ?v9_32) hHeld rfl ?y9_32 ?r9_32
  case y9_32 => (intro w _; first | (go_simp; first | done | with_reducible rfl) | with_reducible rfl)
  (try simp only [pt_])
  refine wpAnyH_ready (rs := [1, 4]) (by kernel_rfl) (by simp) ?_
  refine AllReadyH.cons (o := ⟨some 32, _, _, _, _, _⟩) rfl (fun K hK => ?_) ?_
  go_simp
  refine hK.out _ _ ?_ (fun hHeld => ?_)
  · (first | exact ⟨A8, M8⟩ | exact ⟨A7, M7⟩ | exact ⟨A9A, M9A⟩ | exact ⟨A9, M9⟩ | exact ⟨B_a.drew, B_m.drew⟩)
  clear hK K
  (try simp only [pt_])
  refine wpAnyH_ready (rs := [4]) (by kernel_rfl) (by simp) ?_
  refine AllReadyH.cons (o := ⟨some 35, _, _, _, _, _⟩) rfl (fun K hK => ?_) ?_
  go_simp
  refine (Clone_any _ _ _ body _ hM7 hn4).mono ?_
  rintro e wz ⟨b9, d9, rfl, o9, u9⟩
  have A9 := Blk.below B_a.drew u9
  have A9A := Blk.alloc A9 (.cells #[.slice b9 body.length d9] 23)
  have M9 := Blk.below B_m.drew u9
  have M9A := Blk.alloc M9 (.cells #[.slice b9 body.length d9] 23)
  have B9 := Blk.below B_b.drew u9
  have B9A := Blk.alloc B9 (.cells #[.slice b9 body.length d9] 23)
  have g9b := B9.cell 8
  have g9B := B9A.cell 8
  focus (try go_wp2_with fail)
  refine hK.out _ _ ?_ (fun hHeld => ?_)
  · (first | exact ⟨A8, M8⟩ | exact ⟨A7, M7⟩ | exact ⟨A9A, M9A⟩ | exact ⟨A9, M9⟩ | exact ⟨B_a.drew, B_m.drew⟩)
  clear hK K
  (try simp only [pt_])
  refine wpAnyH_ready (rs := [5]) (by kernel_rfl) (by simp) ?_
  refine AllReadyH.cons (o := ⟨some 36, _, _, _, _, _⟩) rfl (fun K hK => ?_) ?_
  go_simp
  refine hK.out _ _ ?_ (fun hHeld => ?_)
  · (first | exact ⟨A8, M8⟩ | exact ⟨A7, M7⟩ | exact ⟨A9A, M9A⟩ | exact ⟨A9, M9⟩ | exact ⟨B_a.drew, B_m.drew⟩)
  clear hK K
  (try simp only [pt_])
  refine wpAnyH_ready (rs := [6]) (by kernel_rfl) (by simp) ?_
  refine AllReadyH.cons (o := ⟨some 37, _, _, _, _, _⟩) rfl (fun K hK => ?_) ?_
  have hdj : Disj (foot b9 d9) (feetSS y.ha y.hc rs) := Disj.of_rng o9.feet o8.feet (Or.inr (Nat.le_refl _))
  have own2 := o8.below ((Below.refl _ _).drew.trans u9)
  have o10 := o9.lower (b' := w.heap.size + 3) SL
  have LIT := RowC.lit1 wz (rowV (b9, d9, body)) 23
  have own3 := OwnSS.alloc own2 (.cells #[rowV (b9, d9, body)] 23)
  have o11 := Own.alloc o10 (.cells #[rowV (b9, d9, body)] 23)
  have OO : OwnC (wz.alloc (.cells #[rowV (b9, d9, body)] 23)) (w.heap.size + 3) y.ha y.hn y.hc 23 1 (rs.map rowV) := own3.out
  have szz : w.heap.size + 3 ≤ (wz.alloc (.cells #[rowV (b9, d9, body)] 23)).heap.size := by have := u9.size; simp at *; omega
  refine step_appSS (by rfl) _ _ (by rfl) (w.heap.size + 3) y.ha y.hn y.hc (rs.map rowV) (by rfl) OO _ 1 1 [rowV (b9, d9, body)] (by rfl) LIT (by simp [rowV, Value.oneCell']) (by omega) szz ?_
  intro a7 c7 w7 oc u7 g7 m7
  have A7 := Blk.only A9A (Only.of_grown g7) (fun hq => by have := NN _ hq; omega)
  have M7 := Blk.only M9A (Only.of_grown g7) (fun hq => by have := NN _ hq; omega)
  have B7 := Blk.only B9A (Only.of_grown g7) (fun hq => by have := NN _ hq; omega)
  have j8 := B7.cell 8
  have j7 := B7.cell 7
  have f8 := B7.frozen 8
  have f7 := B7.frozen 7
  refine hK.out _ _ ?_ (fun hHeld => ?_)
  · (first | exact ⟨A8, M8⟩ | exact ⟨A7, M7⟩ | exact ⟨A9A, M9A⟩ | exact ⟨A9, M9⟩ | exact ⟨B_a.drew, B_m.drew⟩)
  clear hK K
  (try simp only [pt_])
  refine tk (i := 10) (oi := ⟨some 41, _, _, _, _, _⟩) (v := ?v10_33) hHeld rfl ?y10_33 ?r10_33
  case y10_33 => (intro w _; first | (go_simp; first | done | with_reducible rfl) | with_reducible rfl)
  (try simp only [pt_])
  refine wpAnyH_ready (rs := [11]) (by kernel_rfl) (by simp) ?_
  refine AllReadyH.cons (o := ⟨none, _, _, _, _, _⟩) rfl (fun K hK => ?_) ?_
  have G8 : Only [w2'.heap.size] w7 (w7.setCell ⟨w2'.heap.size, 8, none⟩ (.slice a7 (y.hn + 1) c7)) := (Only.refl _ _).setCell ⟨w2'.heap.size, 8, none⟩ _ (by simp)
  have A8 := Blk.only A7 G8 (by simp; omega)
  have M8 := Blk.only M7 G8 (by simp; omega)
  have B8 := B7.set_ 8 (.slice a7 (y.hn + 1) c7)
  have k7 := B8.frozen 7
  go_simp
  refine hK.out _ _ ?_ (fun hHeld => ?_)
  · (first | exact ⟨A8, M8⟩ | exact ⟨A7, M7⟩ | exact ⟨A9A, M9A⟩ | exact ⟨A9, M9⟩ | exact ⟨B_a.drew, B_m.drew⟩)
  clear hK K
  (try simp only [pt_])
  refine tk (i := 12) (oi := ⟨some 42, _, _, _, _, _⟩) (v := ?v12_34) hHeld rfl ?y12_34 ?r12_34
  case y12_34 => (intro w _; first | (go_simp; first | done | with_reducible rfl) | with_reducible rfl)
  (try simp only [pt_])
  refine wpAnyH_ready (rs := [13]) (by kernel_rfl) (by simp) ?_
  refine AllReadyH.cons (o := ⟨none, _, _, _, _, _⟩) rfl (fun K hK => ?_) ?_
  go_simp
  refine hK.out _ _ ?_ (fun hHeld => ?_)
  · (exact ⟨Blk.only A8 ((Only.refl [w2'.heap.size] _).setCell ⟨w2'.heap.size, 7, none⟩ _ (by simp)) (by simp; omega), Blk.only M8 ((Only.refl [w2'.heap.size] _).setCell ⟨w2'.heap.size, 7, none⟩ _ (by simp)) (by simp; omega)⟩)
  clear hK K
  (try simp only [pt_])
  refine wpAnyH_done (by kernel_rfl) ?_ _
  refine NoPanic.normal ?_
  rotate_left 1
  exact AllReadyH.nil
  exact AllReadyH.nil
  exact AllReadyH.nil
  exact AllReadyH.nil
  exact AllReadyH.nil
  refine AllReadyH.cons (o := ⟨some 35, _, _, _, _, _⟩) rfl (fun K hK => ?_) ?_
  go_simp
  refine (Clone_any _ _ _ body _ hM7 hn4).mono ?_
  rintro e wz ⟨b9, d9, rfl, o9, u9⟩
  have A9 := Blk.below B_a.drew u9
  have A9A := Blk.alloc A9 (.cells #[.slice b9 body.length d9] 23)
  have M9 := Blk.below B_m.drew u9
  have M9A := Blk.alloc M9 (.cells #[.slice b9 body.length d9] 23)
  have B9 := Blk.below B_b.drew u9
  have B9A := Blk.alloc B9 (.cells #[.slice b9 body.length d9] 23)
  have g9b := B9.cell 8
  have g9B := B9A.cell 8
  focus (try go_wp2_with fail)
  refine hK.out _ _ ?_ (fun hHeld => ?_)
  · (first | exact ⟨A8, M8⟩ | exact ⟨A7, M7⟩ | exact ⟨A9A, M9A⟩ | exact ⟨A9, M9⟩ | exact ⟨B_a.drew, B_m.drew⟩)
  clear hK K
  (try simp only [pt_])
  refine wpAnyH_ready (rs := [1, 5]) (by kernel_rfl) (by simp) ?_
  refine AllReadyH.cons (o := ⟨some 32, _, _, _, _, _⟩) rfl (fun K hK => ?_) ?_
  go_simp
  refine hK.out _ _ ?_ (fun hHeld => ?_)
  · (first | exact ⟨A8, M8⟩ | exact ⟨A7, M7⟩ | exact ⟨A9A, M9A⟩ | exact ⟨A9, M9⟩ | exact ⟨B_a.drew, B_m.drew⟩)
  clear hK K
  (try simp only [pt_])
  refine wpAnyH_ready (rs := [5]) (by kernel_rfl) (by simp) ?_
  refine AllReadyH.cons (o := ⟨some 36, _, _, _, _, _⟩) rfl (fun K hK => ?_) ?_
  go_simp
  refine hK.out _ _ ?_ (fun hHeld => ?_)
  · (first | exact ⟨A8, M8⟩ | exact ⟨A7, M7⟩ | exact ⟨A9A, M9A⟩ | exact ⟨A9, M9⟩ | exact ⟨B_a.drew, B_m.drew⟩)
  clear hK K
  (try simp only [pt_])
  refine wpAnyH_ready (rs := [6]) (by kernel_rfl) (by simp) ?_
  refine AllReadyH.cons (o := ⟨some 37, _, _, _, _, _⟩) rfl (fun K hK => ?_) ?_
  have hdj : Disj (foot b9 d9) (feetSS y.ha y.hc rs) := Disj.of_rng o9.feet o8.feet (Or.inr (Nat.le_refl _))
  have own2 := o8.below ((Below.refl _ _).drew.trans u9)
  have o10 := o9.lower (b' := w.heap.size + 3) SL
  have LIT := RowC.lit1 wz (rowV (b9, d9, body)) 23
  have own3 := OwnSS.alloc own2 (.cells #[rowV (b9, d9, body)] 23)
  have o11 := Own.alloc o10 (.cells #[rowV (b9, d9, body)] 23)
  have OO : OwnC (wz.alloc (.cells #[rowV (b9, d9, body)] 23)) (w.heap.size + 3) y.ha y.hn y.hc 23 1 (rs.map rowV) := own3.out
  have szz : w.heap.size + 3 ≤ (wz.alloc (.cells #[rowV (b9, d9, body)] 23)).heap.size := by have := u9.size; simp at *; omega
  refine step_appSS (by rfl) _ _ (by rfl) (w.heap.size + 3) y.ha y.hn y.hc (rs.map rowV) (by rfl) OO _ 1 1 [rowV (b9, d9, body)] (by rfl) LIT (by simp [rowV, Value.oneCell']) (by omega) szz ?_
  intro a7 c7 w7 oc u7 g7 m7
  have A7 := Blk.only A9A (Only.of_grown g7) (fun hq => by have := NN _ hq; omega)
  have M7 := Blk.only M9A (Only.of_grown g7) (fun hq => by have := NN _ hq; omega)
  have B7 := Blk.only B9A (Only.of_grown g7) (fun hq => by have := NN _ hq; omega)
  have j8 := B7.cell 8
  have j7 := B7.cell 7
  have f8 := B7.frozen 8
  have f7 := B7.frozen 7
  refine hK.out _ _ ?_ (fun hHeld => ?_)
  · (first | exact ⟨A8, M8⟩ | exact ⟨A7, M7⟩ | exact ⟨A9A, M9A⟩ | exact ⟨A9, M9⟩ | exact ⟨B_a.drew, B_m.drew⟩)
  clear hK K
  (try simp only [pt_])
  refine tk (i := 10) (oi := ⟨some 41, _, _, _, _, _⟩) (v := ?v10_35) hHeld rfl ?y10_35 ?r10_35
  case y10_35 => (intro w _; first | (go_simp; first | done | with_reducible rfl) | with_reducible rfl)
  (try simp only [pt_])
  refine wpAnyH_ready (rs := [11]) (by kernel_rfl) (by simp) ?_
  refine AllReadyH.cons (o := ⟨none, _, _, _, _, _⟩) rfl (fun K hK => ?_) ?_
  have G8 : Only [w2'.heap.size] w7 (w7.setCell ⟨w2'.heap.size, 8, none⟩ (.slice a7 (y.hn + 1) c7)) := (Only.refl _ _).setCell ⟨w2'.heap.size, 8, none⟩ _ (by simp)
  have A8 := Blk.only A7 G8 (by simp; omega)
  have M8 := Blk.only M7 G8 (by simp; omega)
  have B8 := B7.set_ 8 (.slice a7 (y.hn + 1) c7)
  have k7 := B8.frozen 7
  go_simp
  refine hK.out _ _ ?_ (fun hHeld => ?_)
  · (first | exact ⟨A8, M8⟩ | exact ⟨A7, M7⟩ | exact ⟨A9A, M9A⟩ | exact ⟨A9, M9⟩ | exact ⟨B_a.drew, B_m.drew⟩)
  clear hK K
  (try simp only [pt_])
  refine tk (i := 12) (oi := ⟨some 42, _, _, _, _, _⟩) (v := ?v12_36) hHeld rfl ?y12_36 ?r12_36
  case y12_36 => (intro w _; first | (go_simp; first | done | with_reducible rfl) | with_reducible rfl)
  (try simp only [pt_])
  refine wpAnyH_ready (rs := [13]) (by kernel_rfl) (by simp) ?_
  refine AllReadyH.cons (o := ⟨none, _, _, _, _, _⟩) rfl (fun K hK => ?_) ?_
  go_simp
  refine hK.out _ _ ?_ (fun hHeld => ?_)
  · (exact ⟨Blk.only A8 ((Only.refl [w2'.heap.size] _).setCell ⟨w2'.heap.size, 7, none⟩ _ (by simp)) (by simp; omega), Blk.only M8 ((Only.refl [w2'.heap.size] _).setCell ⟨w2'.heap.size, 7, none⟩ _ (by simp)) (by simp; omega)⟩)
  clear hK K
  (try simp only [pt_])
  refine wpAnyH_done (by kernel_rfl) ?_ _
  refine NoPanic.normal ?_
  rotate_left 1
  exact AllReadyH.nil
  exact AllReadyH.nil
  exact AllReadyH.nil
  exact AllReadyH.nil
  refine AllReadyH.cons (o := ⟨some 36, _, _, _, _, _⟩) rfl (fun K hK => ?_) ?_
  go_simp
  refine hK.out _ _ ?_ (fun hHeld => ?_)
  · (first | exact ⟨A8, M8⟩ | exact ⟨A7, M7⟩ | exact ⟨A9A, M9A⟩ | exact ⟨A9, M9⟩ | exact ⟨B_a.drew, B_m.drew⟩)
  clear hK K
  (try simp only [pt_])
  refine wpAnyH_ready (rs := [1]) (by kernel_rfl) (by simp) ?_
  refine AllReadyH.cons (o := ⟨some 32, _, _, _, _, _⟩) rfl (fun K hK => ?_) ?_
  go_simp
  refine hK.out _ _ ?_ (fun hHeld => ?_)
  · (first | exact ⟨A8, M8⟩ | exact ⟨A7, M7⟩ | exact ⟨A9A, M9A⟩ | exact ⟨A9, M9⟩ | exact ⟨B_a.drew, B_m.drew⟩)
  clear hK K
  (try simp only [pt_])
  refine wpAnyH_ready (rs := [6]) (by kernel_rfl) (by simp) ?_
  refine AllReadyH.cons (o := ⟨some 37, _, _, _, _, _⟩) rfl (fun K hK => ?_) ?_
  have hdj : Disj (foot b9 d9) (feetSS y.ha y.hc rs) := Disj.of_rng o9.feet o8.feet (Or.inr (Nat.le_refl _))
  have own2 := o8.below ((Below.refl _ _).drew.trans u9)
  have o10 := o9.lower (b' := w.heap.size + 3) SL
  have LIT := RowC.lit1 wz (rowV (b9, d9, body)) 23
  have own3 := OwnSS.alloc own2 (.cells #[rowV (b9, d9, body)] 23)
  have o11 := Own.alloc o10 (.cells #[rowV (b9, d9, body)] 23)
  have OO : OwnC (wz.alloc (.cells #[rowV (b9, d9, body)] 23)) (w.heap.size + 3) y.ha y.hn y.hc 23 1 (rs.map rowV) := own3.out
  have szz : w.heap.size + 3 ≤ (wz.alloc (.cells #[rowV (b9, d9, body)] 23)).heap.size := by have := u9.size; simp at *; omega
  refine step_appSS (by rfl) _ _ (by rfl) (w.heap.size + 3) y.ha y.hn y.hc (rs.map rowV) (by rfl) OO _ 1 1 [rowV (b9, d9, body)] (by rfl) LIT (by simp [rowV, Value.oneCell']) (by omega) szz ?_
  intro a7 c7 w7 oc u7 g7 m7
  have A7 := Blk.only A9A (Only.of_grown g7) (fun hq => by have := NN _ hq; omega)
  have M7 := Blk.only M9A (Only.of_grown g7) (fun hq => by have := NN _ hq; omega)
  have B7 := Blk.only B9A (Only.of_grown g7) (fun hq => by have := NN _ hq; omega)
  have j8 := B7.cell 8
  have j7 := B7.cell 7
  have f8 := B7.frozen 8
  have f7 := B7.frozen 7
  refine hK.out _ _ ?_ (fun hHeld => ?_)
  · (first | exact ⟨A8, M8⟩ | exact ⟨A7, M7⟩ | exact ⟨A9A, M9A⟩ | exact ⟨A9, M9⟩ | exact ⟨B_a.drew, B_m.drew⟩)
  clear hK K
  (try simp only [pt_])
  refine tk (i := 10) (oi := ⟨some 41, _, _, _, _, _⟩) (v := ?v10_37) hHeld rfl ?y10_37 ?r10_37
  case y10_37 => (intro w _; first | (go_simp; first | done | with_reducible rfl) | with_reducible rfl)
  (try simp only [pt_])
  refine wpAnyH_ready (rs := [11]) (by kernel_rfl) (by simp) ?_
  refine AllReadyH.cons (o := ⟨none, _, _, _, _, _⟩) rfl (fun K hK => ?_) ?_
  have G8 : Only [w2'.heap.size] w7 (w7.setCell ⟨w2'.heap.size, 8, none⟩ (.slice a7 (y.hn + 1) c7)) := (Only.refl _ _).setCell ⟨w2'.heap.size, 8, none⟩ _ (by simp)
  have A8 := Blk.only A7 G8 (by simp; omega)
  have M8 := Blk.only M7 G8 (by simp; omega)
  have B8 := B7.set_ 8 (.slice a7 (y.hn + 1) c7)
  have k7 := B8.frozen 7
  go_simp
  refine hK.out _ _ ?_ (fun hHeld => ?_)
  · (first | exact ⟨A8, M8⟩ | exact ⟨A7, M7⟩ | exact ⟨A9A, M9A⟩ | exact ⟨A9, M9⟩ | exact ⟨B_a.drew, B_m.drew⟩)
  clear hK K
  (try simp only [pt_])
  refine tk (i := 12) (oi := ⟨some 42, _, _, _, _, _⟩) (v := ?v12_38) hHeld rfl ?y12_38 ?r12_38
  case y12_38 => (intro w _; first | (go_simp; first | done | with_reducible rfl) | with_reducible rfl)
  (try simp only [pt_])
  refine wpAnyH_ready (rs := [13]) (by kernel_rfl) (by simp) ?_
  refine AllReadyH.cons (o := ⟨none, _, _, _, _, _⟩) rfl (fun K hK => ?_) ?_
  go_simp
  refine hK.out _ _ ?_ (fun hHeld => ?_)
  · (exact ⟨Blk.only A8 ((Only.refl [w2'.heap.size] _).setCell ⟨w2'.heap.size, 7, none⟩ _ (by simp)) (by simp; omega), Blk.only M8 ((Only.refl [w2'.heap.size] _).setCell ⟨w2'.heap.size, 7, none⟩ _ (by simp)) (by simp; omega)⟩)
  clear hK K
  (try simp only [pt_])
  refine wpAnyH_done (by kernel_rfl) ?_ _
  refine NoPanic.normal ?_
  rotate_left 1
  exact AllReadyH.nil
  exact AllReadyH.nil
  exact AllReadyH.nil
  exact AllReadyH.nil
  exact AllReadyH.nil
  exact AllReadyH.nil
  all_goals
    have own4 := own3.push (r := (b9, d9, body)) o11 hdj oc g7 m7
    have hd5 : datas' (rs ++ [(b9, d9, body)]) = a.heard ++ [body] := by rw [← hd.out]; simp [datas']
    replace hd5 := Lib.hid hd5
    have uA : Below w5'.heap.size w5' wz := (Below.refl _ _).drew.trans u9
    have Q9 := Lib.hid o9.feet
    have SW := V_w5'.size
    have E5 : Disj (foot y.sa y.sc) (feetSS a7 c7 (rs ++ [(b9, d9, body)])) := push_feet D58 (fun q hq hq' => by have := Q_o5.out q hq; have := (Q9.out q hq').1; simp at this; omega) m7 (fun q hq => by have := Q_o5.out q hq; have := uA.size; simp; omega)
    have E6 : Disj (foot y.ka y.kc) (feetSS a7 c7 (rs ++ [(b9, d9, body)])) := push_feet D68 (fun q hq hq' => by have := Q_o6.out q hq; have := (Q9.out q hq').1; simp at this; omega) m7 (fun q hq => by have := Q_o6.out q hq; have := uA.size; simp; omega)
    have E7 : Disj [w2'.heap.size] (feetSS a7 c7 (rs ++ [(b9, d9, body)])) := push_feet (fun q hq hq' => by have := Q_o8.out q hq'; simp at hq; omega) (fun q hq hq' => by have := (Q9.out q hq').1; simp at this hq; omega) m7 (fun q hq => by have := uA.size; simp at hq ⊢; omega)
    have Q_own4 := Lib.hid (fun q (hq : q ∈ feetSS a7 c7 (rs ++ [(b9, d9, body)])) => (show (w.heap.size + 3 ≤ q ∧ q < w7.heap.size) ∧ q ≠ w2'.heap.size from ⟨own4.feet q hq, fun e => E7 q (by simp [e]) hq⟩))
    clear own2 o9 o10 o11 own3 oc u9 m7 hdj LIT OO szz A9 M9 B9 A9A M9A B9A g9b g9B A7 M7 B7 j8 j7 f8 f7 G8 A8 M8 B8 k7 hM7 Q9 o8
    clear e_a_7 e_m_2 e_b_8 f_b_8 e_b_7 f_b_7
    replace B_a := B_a.below uA
    replace B_m := B_m.below uA
    replace B_r := B_r.below uA
    replace B_b := B_b.below uA
    replace o5 := o5.below uA
    replace o6 := o6.below uA
    have S_wz := uA.size
    have V_wz : Below w.heap.size w wz := V_w5'.trans (uA.mono V_w5'.size)
    clear V_w5'
    clear uA
    refine Exists.elim (Blk.new_ wz (b := wz.heap.size) rfl 23 #[.slice b9 body.length d9]) (fun w6' q => ?_)
    (try rw [q.1] at g7); (try rw [q.1] at u7); (try rw [q.1]); have B_z := q.2.1; have s_w6' := q.2.2.1; have u_w6' := q.2.2.2; clear q
    replace B_a := B_a.below u_w6'
    replace B_m := B_m.below u_w6'
    replace B_r := B_r.below u_w6'
    replace B_b := B_b.below u_w6'
    replace o5 := o5.below u_w6'
    replace o6 := o6.below u_w6'
    have S_w6' : wz.heap.size + 1 ≤ w6'.heap.size := Nat.le_of_eq s_w6'.symm
    have V_w6' := V_wz.trans (u_w6'.mono (V_wz).size)
    clear u_w6' s_w6' V_wz
    clear B_z
    have oG := Only.of_grown g7
    have V_w7 : Below w.heap.size w w7 := V_w6'.trans (u7.mono (show w.heap.size ≤ w.heap.size + 3 by omega))
    replace B_a := Blk.only B_a oG (fun hq => by have := NN _ hq; omega)
    replace B_m := Blk.only B_m oG (fun hq => by have := NN _ hq; omega)
    replace B_r := Blk.only B_r oG (fun hq => by have := NN _ hq; omega)
    replace B_b := Blk.only B_b oG (fun hq => by have := NN _ hq; omega)
    replace o5 := OwnF.only o5 oG (fun q hq hq' => D58 q hq (List.mem_append_left _ hq'))
    replace o6 := o6.only oG (fun q hq hq' => D68 q hq (List.mem_append_left _ hq'))
    have SLw := oG.size
    clear oG u7 g7 NN
    have g_1 : Only [w2'.heap.size] w7 (w7.setCell ⟨w2'.heap.size, 8, none⟩ (.slice a7 (y.hn + 1) c7)) := (Only.refl _ _).setCell _ _ (by simp)
    replace B_b := B_b.set_ 8 (.slice a7 (y.hn + 1) c7)
    generalize w7.setCell ⟨w2'.heap.size, 8, none⟩ (.slice a7 (y.hn + 1) c7) = w7_1' at *
    have G := g_1
    clear g_1
    have g_2 : Only [w2'.heap.size] w7_1' (w7_1'.setCell ⟨w2'.heap.size, 7, none⟩ (.int .i64 (a.step + 1))) := (Only.refl _ _).setCell _ _ (by simp)
    replace B_b := B_b.set_ 7 (.int .i64 (a.step + 1))
    generalize w7_1'.setCell ⟨w2'.heap.size, 7, none⟩ (.int .i64 (a.step + 1)) = w7' at *
    replace G := G.trans g_2
    clear g_2
    simp only [List.setIfInBounds_toArray, List.set_cons_zero, List.set_cons_succ] at B_b
    have V_w7' := (V_w7).trans (G.below (V_w7).size (fun q hq => by have := (V_w7).size; simp at hq; omega))
    replace B_a := B_a.only G (by first | (simp; done) | (simp; omega))
    replace B_m := B_m.only G (by first | (simp; done) | (simp; omega))
    replace B_r := B_r.only G (by first | (simp; done) | (simp; omega))
    replace o5 := o5.only G (fun q hq hq' => by have := Q_o5.out q hq; simp at hq'; omega)
    replace o6 := o6.only G (fun q hq hq' => by have := Q_o6.out q hq; simp at hq'; omega)
    replace own4 := own4.only G (fun q hq hq' => by have := Q_own4.out q hq; simp at hq'; omega)
    have sG0 := G.size
    clear G
    clear V_w7
    have S_w7' : w7.heap.size + 0 ≤ w7'.heap.size := by omega
    clear sG0
    have e_b := B_b.all11
    have e_r := B_r.all11
    have f_r := B_r.frz11
    go_wp2
    clear e_b e_r f_r
    refine Exists.elim (B_r.row11 (.int .i64 a.P) (.int .i64 a.party) (.int .i64 a.input) (.int .i64 a.mask) (.int .i64 a.delta) (.slice y.sa y.sn y.sc) (.slice y.ka y.kn y.kc) (.int .i64 (a.step + 1)) (.slice a7 (y.hn + 1) c7) (.int .i64 1) (.int .i64 ((th + b0) % a.P))) (fun w8' q => ?_)
    rw [q.1]; replace B_r := q.2.1; have G := q.2.2; clear q
    have V_w8' := (V_w7').trans (G.below (V_w7').size (fun q hq => by have := (V_w7').size; simp at hq; omega))
    replace B_a := B_a.only G (by first | (simp; done) | (simp; omega))
    replace B_m := B_m.only G (by first | (simp; done) | (simp; omega))
    replace B_b := B_b.only G (by first | (simp; done) | (simp; omega))
    replace o5 := o5.only G (fun q hq hq' => by have := Q_o5.out q hq; simp at hq'; omega)
    replace o6 := o6.only G (fun q hq hq' => by have := Q_o6.out q hq; simp at hq'; omega)
    replace own4 := own4.only G (fun q hq hq' => by have := Q_own4.out q hq; simp at hq'; omega)
    have sG0 := G.size
    clear G
    clear V_w7'
    have S_w8' : w7'.heap.size + 0 ≤ w8'.heap.size := by omega
    clear sG0
    have e_r := B_r.all11
    exact bodyPost_ret (v := .agg #[.int .i64 a.P, .int .i64 a.party, .int .i64 a.input, .int .i64 a.mask, .int .i64 a.delta, .slice y.sa y.sn y.sc, .slice y.ka y.kn y.kc, .int .i64 (a.step + 1), .slice a7 (y.hn + 1) c7, .int .i64 1, .int .i64 ((th + b0) % a.P)]) (by simp [results, Tryd.results92, go_sem, e_r]) rfl ⟨⟨y.sa, y.sn, y.sc, y.ka, y.kn, y.kc, a7, y.hn + 1, c7⟩, _, rfl, ⟨OwnF.lower o5 (by omega), o6.lower (by omega), _, own4.lower (by omega), hd5.out, D56, E5, E6, rfl⟩, V_w8'⟩
end Go.Proofs.YtlmdckcohoddnaaDoor
namespace Go.Proofs.YtlmdckcohoddnaaDoor
open Go.RowKit
theorem takeP_no {a : Pl} {fr st : Int} {b : List Int} (h : accB a fr st b = false) : takeP a fr st b = { a with status := 2 } := by simp [takeP, h]
theorem takeP_go {a : Pl} {fr st : Int} {b : List Int} (h : accB a fr st b = true) (h2 : ¬ a.step = 2) : takeP a fr st b = { a with heard := a.heard ++ [b], step := a.step + 1 } := by simp [takeP, h, h2]
theorem takeP_end {a : Pl} {fr st : Int} {b : List Int} (h : accB a fr st b = true) (h2 : a.step = 2) : takeP a fr st b = { a with heard := a.heard ++ [b], step := a.step + 1, status := 1, out := (thV a + b.getD 0 0) % a.P } := by simp [takeP, h, h2]
theorem take_any (a : Pl) (x : PlX) (fr st : Int) (b : Option Addr) (n c : Nat) (body : List Int) (w : World) (h : PlR w x a.shares a.keys a.heard) (hM : Ints w b n c body) (hT : Tbl w) (hN : PlN a) (hs : a.step ≤ 2) :
    Calls Tryd.prog 92 #[.agg #[.int .i64 a.P, .int .i64 a.party, .int .i64 a.input, .int .i64 a.mask, .int .i64 a.delta, .slice x.sa x.sn x.sc, .slice x.ka x.kn x.kc, .int .i64 a.step, .slice x.ha x.hn x.hc, .int .i64 a.status, .int .i64 a.out], .agg #[.int .i64 fr, .int .i64 st, .slice b n c]] w fun e w' => ∃ y F, e = .returned (.agg #[.int .i64 (takeP a fr st body).P, .int .i64 (takeP a fr st body).party, .int .i64 (takeP a fr st body).input, .int .i64 (takeP a fr st body).mask, .int .i64 (takeP a fr st body).delta, .slice y.sa y.sn y.sc, .slice y.ka y.kn y.kc, .int .i64 (takeP a fr st body).step, .slice y.ha y.hn y.hc, .int .i64 (takeP a fr st body).status, .int .i64 (takeP a fr st body).out]) ∧ PlO w' w.heap.size y (takeP a fr st body).shares (takeP a fr st body).keys (takeP a fr st body).heard F ∧ Below w.heap.size w w' := by
  cases hacc : accB a fr st body
  · rw [takeP_no hacc]; exact take_no a x fr st b n c body w h hM hT hN hs hacc
  · by_cases h2 : a.step = 2
    · rw [takeP_end hacc h2]; exact take_end a x fr st b n c body w h hM hT hN hs hacc h2
    · rw [takeP_go hacc h2]; exact take_go a x fr st b n c body w h hM hT hN hs hacc (by omega)
theorem ptTake_B (a : Pl) (x : PlX) (fr st : Int) (b : Option Addr) (n c : Nat) (body : List Int) (w : World) (F : List Nat) (hF : ∀ q ∈ F, q < w.heap.size) (h : PlB F w x a.shares a.keys a.heard) (hM : Ints w b n c body) (hN : PlN a) (hs : a.step ≤ 2) :
    Calls Tryd.prog 91 #[.agg #[.int .i64 a.P, .int .i64 a.party, .int .i64 a.input, .int .i64 a.mask, .int .i64 a.delta, .slice x.sa x.sn x.sc, .slice x.ka x.kn x.kc, .int .i64 a.step, .slice x.ha x.hn x.hc, .int .i64 a.status, .int .i64 a.out], .agg #[.int .i64 fr, .int .i64 st, .slice b n c]] w fun e w' => ∃ y, e = .returned (.agg #[.int .i64 (takeP a fr st body).P, .int .i64 (takeP a fr st body).party, .int .i64 (takeP a fr st body).input, .int .i64 (takeP a fr st body).mask, .int .i64 (takeP a fr st body).delta, .slice y.sa y.sn y.sc, .slice y.ka y.kn y.kc, .int .i64 (takeP a fr st body).step, .slice y.ha y.hn y.hc, .int .i64 (takeP a fr st body).status, .int .i64 (takeP a fr st body).out]) ∧ PlB F w' y (takeP a fr st body).shares (takeP a fr st body).keys (takeP a fr st body).heard ∧ Below w.heap.size w w' := by
  cases hacc : accB a fr st body
  · rw [takeP_no hacc]
    have hl := hM.len
    by_cases h1 : fr = 1 - a.party
    · by_cases h2 : st = a.step
      · by_cases h3 : n = blen a.step.toNat
        · cases h4 : allB body 0 (a.P - 1)
          · exact ptTake_all a x fr st b n c body w F hF h hM hN hs h1 h2 h3 h4
          · cases h5 : accT a body
            · exact ptTake_holds a x fr st b n c body w F hF h hM hN hs h1 h2 h3 h4 h5
            · exfalso
              unfold accB bodyB at hacc
              rw [h4, h5, ← hl] at hacc
              simp [h1, h2, h3] at hacc
        · exact ptTake_len a x fr st b n c body w F hF h hM hN hs h1 h2 h3
      · exact ptTake_st a x fr st b n c body w F hF h hM hN hs h1 h2
    · exact ptTake_fr a x fr st b n c body w F hF h hM hN hs h1
  · by_cases h2 : a.step = 2
    · rw [takeP_end hacc h2]; exact ptTake_end a x fr st b n c body w F hF h hM hN hs hacc h2
    · rw [takeP_go hacc h2]; exact ptTake_go a x fr st b n c body w F hF h hM hN hs hacc (by omega)
theorem hAt_app_l (h : List (List Int)) (b : List Int) (i : Nat) (hi : i < h.length) : hAt (h ++ [b]) i = hAt h i := by unfold hAt; simp only [List.getD]; rw [List.getElem?_append_left hi]
theorem hAt_app_r (h : List (List Int)) (b : List Int) : hAt (h ++ [b]) h.length = b := by unfold hAt; simp [List.getD]
theorem PlN.heard {a a' : Pl} (h : PlN a) (hs : a.step ≤ 2) {b : List Int} (hb1 : b.length = blen a.step.toNat) (hb2 : ∀ v ∈ b, 0 ≤ v ∧ v ≤ a.P - 1) (e0 : a'.P = a.P) (e1 : a'.party = a.party) (e2 : a'.input = a.input) (e3 : a'.mask = a.mask) (e4 : a'.delta = a.delta) (e5 : a'.shares = a.shares) (e6 : a'.keys = a.keys)
    (e7 : a'.step = a.step + 1) (e8 : a'.heard = a.heard ++ [b]) (e9 : 0 ≤ a'.out ∧ a'.out ≤ a.P - 1) : PlN a' := by
  obtain ⟨P, pa, ip, mk, de, S, K, st, H, ss, ou⟩ := a'
  dsimp only at *
  subst e0 e1 e2 e3 e4 e5 e6 e7 e8
  have hl := h.hl
  have h0 := h.stp
  refine ⟨h.p1, h.p2, h.ip, h.mks, h.de, e9, h.pa, h.sl, h.kl, h.sv, h.st, h.ky, ⟨by simp only; omega, by simp only; omega⟩, by simp; omega, fun i hi => ?_, h.pr⟩
  have hi' : i < a.heard.length + 1 := by simpa using hi
  unfold hdI
  dsimp only
  by_cases hlt : i < a.heard.length
  · rw [hAt_app_l _ _ _ hlt]; exact h.hb i hlt
  · obtain rfl : i = a.heard.length := by omega
    rw [hAt_app_r]
    have : a.step.toNat = a.heard.length := by omega
    rw [this] at hb1
    exact ⟨hb1, fun j hj => hb2 _ (getD_mem _ _ (by omega))⟩
theorem PlN.take {a : Pl} (h : PlN a) (hs : a.step ≤ 2) (fr st : Int) (b : List Int) : PlN (takeP a fr st b) := by
  cases hacc : accB a fr st b
  · rw [takeP_no hacc]; exact ⟨h.p1, h.p2, h.ip, h.mks, h.de, h.ou, h.pa, h.sl, h.kl, h.sv, h.st, h.ky, h.stp, h.hl, h.hb, h.pr⟩
  · obtain ⟨_, _, hb1, hb2, _⟩ := acc_all hacc
    have hb3 := (allB_iff _ _ _).1 hb2
    by_cases h2 : a.step = 2
    · rw [takeP_end hacc h2]; exact h.heard hs hb1 hb3 rfl rfl rfl rfl rfl rfl rfl rfl rfl (emod_rng _ _ (by have := h.p1; omega))
    · rw [takeP_go hacc h2]; exact h.heard hs hb1 hb3 rfl rfl rfl rfl rfl rfl rfl rfl rfl h.ou
theorem PlN.cnt {a : Pl} (h : PlN a) : cntP a.shares a.keys a.heard ≤ 100 := by
  have h1 := h.sl
  have h2 := h.kl
  have h3 := h.hl
  have h4 := h.stp
  have h5 : totL a.heard ≤ 12 := by
    have hb := h.hb
    generalize a.heard = H at *
    match H, h3, hb with
    | [], _, _ => simp [totL]
    | [x], _, hb => have := (hb 0 (by simp)).1; have e := (blen_bd 0).2; simp [totL, hAt] at *; omega
    | [x, y], _, hb => have := (hb 0 (by simp)).1; have := (hb 1 (by simp)).1; have e := (blen_bd 0).2; have e' := (blen_bd 1).2; simp [totL, hAt] at *; omega
    | [x, y, z], _, hb => have := (hb 0 (by simp)).1; have := (hb 1 (by simp)).1; have := (hb 2 (by simp)).1; have e := (blen_bd 0).2; have e' := (blen_bd 1).2; have e'' := (blen_bd 2).2; simp [totL, hAt] at *; omega
    | x :: y :: z :: u :: l, h3, _ => simp at h3; omega
  unfold cntP
  omega
def zeroX : PlX := ⟨none, 0, 0, none, 0, 0, none, 0, 0⟩
theorem PlO.nil (w : World) (b : Nat) : PlO w b zeroX [] [] [] [] := by
  refine ⟨OwnC.nil0 _ _ _ _ _, Own.nil0 _ _ _, [], OwnSS.nil0 _ _ _, rfl, ?_, ?_, ?_, ?_⟩
  · show Disj (foot none 0) _; rw [foot_zero]; exact Disj.nil_l _
  · show Disj (foot none 0) _; rw [foot_zero]; exact Disj.nil_l _
  · show Disj (foot none 0) _; rw [foot_zero]; exact Disj.nil_l _
  · simp [zeroX, foot_zero, feetSS_nil]
end Go.Proofs.YtlmdckcohoddnaaDoor
namespace Go.Proofs.YtlmdckcohoddnaaDoor
open Go.RowKit
def rpS (a : Pl) (m : MsD) : Pl := if a.status = 0 then takeP a m.1 m.2.1 m.2.2 else a
def rpP (a : Pl) (D : List MsD) : Pl := D.foldl rpS a
structure RunN (a : Pl) : Prop where
  n : PlN a
  r : a.status = 0 → a.step ≤ 2
theorem RunN.step {a : Pl} (h : RunN a) (m : MsD) : RunN (rpS a m) := by
  unfold rpS
  split
  · rename_i h0
    have hs := h.r h0
    refine ⟨h.n.take hs _ _ _, fun h1 => ?_⟩
    cases hacc : accB a m.1 m.2.1 m.2.2
    · rw [takeP_no hacc] at h1; simp at h1
    · by_cases h2 : a.step = 2
      · rw [takeP_end hacc h2] at h1; simp at h1
      · rw [takeP_go hacc h2]; simp only; omega
  · exact h
theorem RunN.of {a : Pl} (h : plB a = true) (h0 : a.status = 0) : RunN a := ⟨PlN.of h, fun _ => run_step h h0⟩
theorem RunN.all {a : Pl} (h : RunN a) (D : List MsD) : RunN (rpP a D) := by
  unfold rpP
  induction D generalizing a with
  | nil => exact h
  | cons m D ih => exact ih (h.step m)
end Go.Proofs.YtlmdckcohoddnaaDoor
namespace Go.Proofs.YtlmdckcohoddnaaDoor
open Go.RowKit
def mesP (fr : Int) (a : Pl) : MsD := (fr, a.step, bodyL a)
def takeM (a : Pl) (m : MsD) : Pl := takeP a m.1 m.2.1 m.2.2
def runP (chg : Int → MsD → MsD) : Nat → Pl → Pl → List MsD → Pl × Pl × List MsD
  | 0, a, b, l => (a, b, l)
  | n + 1, a, b, l =>
    let a' := takeM a (chg (l.length + 1) (mesP 1 b)); let b' := takeM b (chg l.length (mesP 0 a))
    if a'.status = 2 ∨ b'.status = 2 then (a', b', l ++ [mesP 0 a, mesP 1 b]) else runP chg n a' b' (l ++ [mesP 0 a, mesP 1 b])
structure RunS (r : Nat) (a b : Pl) : Prop where
  an : PlN a
  bn : PlN b
  sa : a.step = r
  sb : b.step = r
  ta : a.status = 0
  tb : b.status = 0
theorem takeM_status {a : Pl} {m : MsD} (h : (takeM a m).status ≠ 2) : accB a m.1 m.2.1 m.2.2 = true := by
  cases hacc : accB a m.1 m.2.1 m.2.2
  · unfold takeM at h; rw [takeP_no hacc] at h; simp at h
  · rfl
theorem takeM_go {a : Pl} {m : MsD} (h : (takeM a m).status ≠ 2) (h2 : a.step ≠ 2) : (takeM a m).step = a.step + 1 ∧ (takeM a m).status = a.status := by
  have hacc := takeM_status h
  unfold takeM; rw [takeP_go hacc h2]; exact ⟨rfl, rfl⟩
theorem takeM_end {a : Pl} {m : MsD} (h : (takeM a m).status ≠ 2) (h2 : a.step = 2) : (takeM a m).step = 3 ∧ (takeM a m).status = 1 := by
  have hacc := takeM_status h
  unfold takeM; rw [takeP_end hacc h2]; exact ⟨by simp only; omega, rfl⟩
theorem RunS.next {r : Nat} {a b : Pl} (h : RunS r a b) (hr : r < 2) {m k : MsD} (ha : (takeM a m).status ≠ 2) (hb : (takeM b k).status ≠ 2) : RunS (r + 1) (takeM a m) (takeM b k) := by
  have h1 := h.sa; have h2 := h.sb
  obtain ⟨a1, a2⟩ := takeM_go ha (by omega)
  obtain ⟨b1, b2⟩ := takeM_go hb (by omega)
  exact ⟨h.an.take (by omega) _ _ _, h.bn.take (by omega) _ _ _, by rw [a1]; omega, by rw [b1]; omega, by rw [a2]; exact h.ta, by rw [b2]; exact h.tb⟩
theorem takeM_n {r : Nat} {a b : Pl} (h : RunS r a b) (hr : r ≤ 2) (m k : MsD) : PlN (takeM a m) ∧ PlN (takeM b k) :=
  ⟨h.an.take (by have := h.sa; omega) _ _ _, h.bn.take (by have := h.sb; omega) _ _ _⟩
end Go.Proofs.YtlmdckcohoddnaaDoor
