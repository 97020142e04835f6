/- Lemmas and walks that the claim's proof rests on, part 13. -/
import Derived.Test.YtlmdckcohoddnaaDoorK12
namespace Go.Proofs.YtlmdckcohoddnaaDoor
open Go.RowKit
theorem acc_all {a : Pl} {fr st : Int} {b : List Int} (h : accB a fr st b = true) : fr = 1 - a.party ∧ st = a.step ∧ b.length = blen a.step.toNat ∧ allB b 0 (a.P - 1) = true ∧ accT a b = true := by
  unfold accB bodyB at h
  simp only [Bool.and_eq_true, decide_eq_true_eq] at h
  exact ⟨h.1, h.2.1, h.2.2.1.1, h.2.2.1.2, h.2.2.2⟩
set_option maxHeartbeats 16000000 in
set_option maxRecDepth 100000 in
theorem ptTake_go (a : Pl) (x : PlX) (fr st : Int) (b : Option Addr) (n c : Nat) (body : List Int) (w : World) (F : List Nat) (hF : ∀ q ∈ F, q < w.heap.size) (hPB : PlB F w x a.shares a.keys a.heard) (hM : Ints w b n c body) (hN : PlN a) (hs : a.step ≤ 2) (hacc : accB a fr st body = true) (hs2 : a.step < 2) :
    Calls Tryd.prog 91 #[.agg #[.int .i64 a.P, .int .i64 a.party, .int .i64 a.input, .int .i64 a.mask, .int .i64 a.delta, .slice x.sa x.sn x.sc, .slice x.ka x.kn x.kc, .int .i64 a.step, .slice x.ha x.hn x.hc, .int .i64 a.status, .int .i64 a.out], .agg #[.int .i64 fr, .int .i64 st, .slice b n c]] w fun e w' => ∃ y, e = .returned (.agg #[.int .i64 a.P, .int .i64 a.party, .int .i64 a.input, .int .i64 a.mask, .int .i64 a.delta, .slice y.sa y.sn y.sc, .slice y.ka y.kn y.kc, .int .i64 (a.step + 1), .slice y.ha y.hn y.hc, .int .i64 a.status, .int .i64 a.out]) ∧ PlB F w' y a.shares a.keys (a.heard ++ [body]) ∧ Below w.heap.size w w' := by
  obtain ⟨hb1, hb2, hb3, hb4, hb5⟩ := acc_all hacc
  have hnn := hM.len
  subst hnn
  have h := hPB.rd
  have LB := Lib.hid hPB
  clear hPB
  have hp1 := hN.p1
  have hp2 := hN.p2
  have hpa := hN.pa
  have hst := hN.stp
  have hnl := hM.le
  have t1 : IntKind.i64.wrap (1 - a.party) = 1 - a.party := IntWalk.i64_in _ (by omega)
  have t2 : IntKind.i64.wrap (a.P - 1) = a.P - 1 := IntWalk.i64_in _ (by omega)
  have CL : ∀ (W : World), Calls Tryd.prog 88 #[.int .i64 a.step] W fun e w' => e = .returned (.int .i64 (blen a.step.toNat)) ∧ Below W.heap.size W w' := fun W => by
    have := ptLength_any a.step.toNat W (by omega)
    rwa [Int.toNat_of_nonneg hst.1] at this
  have C4 := fun (W : World) (h2 : Ints W b body.length c body) => ((l1All_any b body.length c body 0 (a.P - 1) W h2).mono (fun _ _ ⟨he, hq⟩ => ⟨he, below_of_quiet hq⟩) : Calls Tryd.prog 100 #[.slice b body.length c, .int .i64 0, .int .i64 (a.P - 1)] W fun e w' => e = .returned (.bool (allB body 0 (a.P - 1))) ∧ Below W.heap.size W w')
  have C5 := fun (hl : body.length = blen a.step.toNat) (hr : ∀ v ∈ body, 0 ≤ v ∧ v ≤ a.P - 1) (W : World) (h2 : PlR W x a.shares a.keys a.heard) (h3 : Ints W b body.length c body) => ptHolds_any a x b body.length c body W h2 h3 hN hs hl hr
  have t5 : IntKind.i64.wrap (a.step + 1) = a.step + 1 := IntWalk.i64_in _ (by omega)
  have d7 : ((a.step + 1 == 3) : Bool) = false := by simp; omega
  have hn4 : body.length ≤ 10000000 := by rw [hb3]; have := (blen_bd a.step.toNat).2; omega
  have hhl := hN.hl
  subst hb1
  have d1 : (((1 - a.party) != 1 - a.party) : Bool) = false := by simp
  subst hb2
  have d2 : ((a.step != a.step) : Bool) = false := by simp
  generalize hbn : blen a.step.toNat = B at *
  have d3 : (((body.length : Int) != (B : Int)) : Bool) = false := by simp; omega
  rw [hb4] at C4
  replace C5 := C5 hb3 ((allB_iff _ _ _).1 hb4)
  rw [hb5] at C5
  have LH := Lib.hid h
  have LM := Lib.hid hM
  replace CL := Lib.hid CL
  replace C4 := Lib.hid C4
  replace C5 := Lib.hid C5
  have hst2 : a.step ≤ 2 := hs
  clear h hM hN hs hacc hb3 hb4 hb5 hs2 hbn
  go_enter Tryd.func91, Tryd.ntmps91
  go_upto_region 2 with fail
  refine Exists.elim (Blk.new_ w (b := w.heap.size) rfl 31 #[.int .i64 a.P, .int .i64 a.party, .int .i64 a.input, .int .i64 a.mask, .int .i64 a.delta, .slice x.sa x.sn x.sc, .slice x.ka x.kn x.kc, .int .i64 a.step, .slice x.ha x.hn x.hc, .int .i64 a.status, .int .i64 a.out]) (fun w1_a0' q => ?_)
  rw [q.1]; have B_a := q.2.1; have s_w1_a0' := q.2.2.1; have u_w1_a0' := q.2.2.2; clear q
  refine Exists.elim (Blk.new_ w1_a0' (b := w.heap.size + 1) s_w1_a0' 44 #[.int .i64 (1 - a.party), .int .i64 a.step, .slice b body.length c]) (fun w1_a1' q => ?_)
  rw [q.1]; have B_m := q.2.1; have s_w1_a1' := q.2.2.1; have u_w1_a1' := q.2.2.2; clear q
  refine Exists.elim (Blk.new_ w1_a1' (b := w.heap.size + 2) s_w1_a1' 31 #[.int .i64 0, .int .i64 0, .int .i64 0, .int .i64 0, .int .i64 0, .slice none 0 0, .slice none 0 0, .int .i64 0, .slice none 0 0, .int .i64 0, .int .i64 0]) (fun w1_a2' q => ?_)
  rw [q.1]; have B_r := q.2.1; have s_w1_a2' := q.2.2.1; have u_w1_a2' := q.2.2.2; clear q
  refine Exists.elim (Blk.new_ w1_a2' (b := w.heap.size + 3) s_w1_a2' 31 #[.int .i64 a.P, .int .i64 a.party, .int .i64 a.input, .int .i64 a.mask, .int .i64 a.delta, .slice x.sa x.sn x.sc, .slice x.ka x.kn x.kc, .int .i64 a.step, .slice x.ha x.hn x.hc, .int .i64 a.status, .int .i64 a.out]) (fun w1' q => ?_)
  rw [q.1]; have B_b := q.2.1; have s_w1' := q.2.2.1; have u_w1' := q.2.2.2; clear q
  replace B_a := (((B_a.below u_w1_a1').below u_w1_a2').below u_w1')
  replace B_m := ((B_m.below u_w1_a2').below u_w1')
  replace B_r := (B_r.below u_w1')
  have U := (u_w1_a0'.trans ((u_w1_a1'.trans ((u_w1_a2'.trans (u_w1'.mono u_w1_a2'.size)).mono u_w1_a1'.size)).mono u_w1_a0'.size))
  have S_w1' : w.heap.size + 4 ≤ w1'.heap.size := Nat.le_of_eq s_w1'.symm
  have V_w1' := (Below.refl w.heap.size w).trans (U.mono ((Below.refl w.heap.size w)).size)
  clear u_w1_a0' u_w1_a1' u_w1_a2' u_w1' s_w1_a0' s_w1_a1' s_w1_a2' s_w1' U
  try rw [show w.heap.size + 1 + 1 + 1 = w.heap.size + 3 from rfl]
  try rw [show w.heap.size + 1 + 1 = w.heap.size + 2 from rfl]
  have e_a_0 := B_a.a11_0
  have e_a_1 := B_a.a11_1
  have e_a_2 := B_a.a11_2
  have e_a_3 := B_a.a11_3
  have e_a_4 := B_a.a11_4
  have e_a_5 := B_a.a11_5
  have e_a_6 := B_a.a11_6
  have e_a_7 := B_a.a11_7
  have e_a_8 := B_a.a11_8
  have e_a_9 := B_a.a11_9
  have e_a_10 := B_a.a11_10
  have e_m_0 := B_m.a3_0
  have e_m_1 := B_m.a3_1
  have e_m_2 := B_m.a3_2
  have hRd := (LH.out.below V_w1').drew
  have hMd := (LM.out.below V_w1').below (Below.refl _ _).drew
  go_wp2
  go_region_held3 (fun W => W.cell? ⟨w.heap.size, 0, none⟩ = some (.int .i64 a.P) ∧ W.cell? ⟨w.heap.size, 1, none⟩ = some (.int .i64 a.party) ∧ W.cell? ⟨w.heap.size, 2, none⟩ = some (.int .i64 a.input) ∧ W.cell? ⟨w.heap.size, 3, none⟩ = some (.int .i64 a.mask) ∧ W.cell? ⟨w.heap.size, 4, none⟩ = some (.int .i64 a.delta) ∧ W.cell? ⟨w.heap.size, 5, none⟩ = some (.slice x.sa x.sn x.sc) ∧ W.cell? ⟨w.heap.size, 6, none⟩ = some (.slice x.ka x.kn x.kc) ∧ W.cell? ⟨w.heap.size, 7, none⟩ = some (.int .i64 a.step) ∧ W.cell? ⟨w.heap.size, 8, none⟩ = some (.slice x.ha x.hn x.hc) ∧ W.cell? ⟨w.heap.size, 9, none⟩ = some (.int .i64 a.status) ∧ W.cell? ⟨w.heap.size, 10, none⟩ = some (.int .i64 a.out) ∧ W.cell? ⟨w.heap.size + 1, 0, none⟩ = some (.int .i64 (1 - a.party)) ∧ W.cell? ⟨w.heap.size + 1, 1, none⟩ = some (.int .i64 a.step) ∧ W.cell? ⟨w.heap.size + 1, 2, none⟩ = some (.slice b body.length c))
    (first | exact ⟨keepC uh (keepC ua (keepC ul (e_a_0))), keepC uh (keepC ua (keepC ul (e_a_1))), keepC uh (keepC ua (keepC ul (e_a_2))), keepC uh (keepC ua (keepC ul (e_a_3))), keepC uh (keepC ua (keepC ul (e_a_4))), keepC uh (keepC ua (keepC ul (e_a_5))), keepC uh (keepC ua (keepC ul (e_a_6))), keepC uh (keepC ua (keepC ul (e_a_7))), keepC uh (keepC ua (keepC ul (e_a_8))), keepC uh (keepC ua (keepC ul (e_a_9))), keepC uh (keepC ua (keepC ul (e_a_10))), keepC uh (keepC ua (keepC ul (e_m_0))), keepC uh (keepC ua (keepC ul (e_m_1))), keepC uh (keepC ua (keepC ul (e_m_2)))⟩ | exact ⟨keepC ua (keepC ul (e_a_0)), keepC ua (keepC ul (e_a_1)), keepC ua (keepC ul (e_a_2)), keepC ua (keepC ul (e_a_3)), keepC ua (keepC ul (e_a_4)), keepC ua (keepC ul (e_a_5)), keepC ua (keepC ul (e_a_6)), keepC ua (keepC ul (e_a_7)), keepC ua (keepC ul (e_a_8)), keepC ua (keepC ul (e_a_9)), keepC ua (keepC ul (e_a_10)), keepC ua (keepC ul (e_m_0)), keepC ua (keepC ul (e_m_1)), keepC ua (keepC ul (e_m_2))⟩ | exact ⟨keepC ul (e_a_0), keepC ul (e_a_1), keepC ul (e_a_2), keepC ul (e_a_3), keepC ul (e_a_4), keepC ul (e_a_5), keepC ul (e_a_6), keepC ul (e_a_7), keepC ul (e_a_8), keepC ul (e_a_9), keepC ul (e_a_10), keepC ul (e_m_0), keepC ul (e_m_1), keepC ul (e_m_2)⟩ | exact ⟨e_a, e_m⟩ | go_keep)
    (first | (go_at_call 88; refine (CL.out _).mono ?_; rintro e wl ⟨rfl, ul⟩) | (go_at_call 100; refine (C4.out _ (hMd.below ul)).mono ?_; rintro e wa ⟨rfl, ua⟩) | (go_at_call 121; refine (C5.out _ ((hRd.below ul).below ua) ((hMd.below ul).below ua)).mono ?_; rintro e wh ⟨rfl, uh⟩))
  have u9 : Below w1'.heap.size w1' wh := (Below.refl _ _).drew.trans (ul.trans ((ua.trans (uh.mono ua.size)).mono ul.size))
  clear hRd hMd ul ua uh
  clear e_a_0 e_a_1 e_a_2 e_a_3 e_a_4 e_a_5 e_a_6 e_a_7 e_a_8 e_a_9 e_a_10 e_m_0 e_m_1 e_m_2
  replace B_a := B_a.below u9
  replace B_m := B_m.below u9
  replace B_r := B_r.below u9
  replace B_b := B_b.below u9
  have S_wh := u9.size
  have V_wh : Below w.heap.size w wh := V_w1'.trans (u9.mono V_w1'.size)
  clear V_w1'
  clear u9
  obtain ⟨hS0, hK0, rs, hH0, hD0, off1, off2, off3, off4⟩ := LB.out
  have hrl := hH0.len
  have hrn : x.hn ≤ 2 := by have : rs.length = a.heard.length := by rw [← hD0, datas_len]
                            omega
  have hHd := hH0.below V_wh
  have hMd := LM.out.below V_wh
  have SV := V_wh.size
  replace hD0 := Lib.hid hD0
  have e_a_8 := B_a.a11_8
  have e_m_2 := B_m.a3_2
  have e_b_8 := B_b.a11_8
  have f_b_8 := B_b.frozen 8
  go_wp2
  refine wp_region_noPanic ?_
  refine wp_region_held_drew (S := (fun W => Blk W (w.heap.size) 31 #[.int .i64 a.P, .int .i64 a.party, .int .i64 a.input, .int .i64 a.mask, .int .i64 a.delta, .slice x.sa x.sn x.sc, .slice x.ka x.kn x.kc, .int .i64 a.step, .slice x.ha x.hn x.hc, .int .i64 a.status, .int .i64 a.out] ∧ Blk W (w.heap.size + 1) 44 #[.int .i64 (1 - a.party), .int .i64 a.step, .slice b body.length c])) (by kernel_rfl) ?hS76 (fun hHeld => ?go76)
  case hS76 => exact ⟨B_a.drew, B_m.drew⟩
  refine tk (i := 1) (oi := ⟨some 48, _, _, _, _, _⟩) (v := ?v1_77) hHeld rfl ?y1_77 ?r1_77
  case y1_77 => (intro w _; first | (go_simp; first | done | with_reducible rfl) | with_reducible rfl)
  (try simp only [pt_])
  refine tk (i := 2) (oi := ⟨some 49, _, _, _, _, _⟩) (v := ?v2_78) hHeld rfl ?y2_78 ?r2_78
  case y2_78 => (intro w hSw; obtain ⟨qS0, qS1⟩ := hSw; have cS0 := qS0.all11; have cS1 := qS1.all3; first | (go_simp; first | done | with_reducible rfl) | with_reducible rfl)
  (try simp only [pt_])
  refine tk (i := 4) (oi := ⟨some 51, _, _, _, _, _⟩) (v := ?v4_79) hHeld rfl ?y4_79 ?r4_79
  case y4_79 => (intro w _; first | (go_simp; first | done | with_reducible rfl) | with_reducible rfl)
  (try simp only [pt_])
  refine tk (i := 5) (oi := ⟨some 52, _, _, _, _, _⟩) (v := ?v5_80) hHeld rfl ?y5_80 ?r5_80
  case y5_80 => (intro w hSw; obtain ⟨qS0, qS1⟩ := hSw; have cS0 := qS0.all11; have cS1 := qS1.all3; first | (go_simp; first | done | with_reducible rfl) | with_reducible rfl)
  (try simp only [pt_])
  refine wpAnyH_ready (rs := [0]) (by kernel_rfl) (by simp) ?_
  refine AllReadyH.cons (o := ⟨some 47, _, _, _, _, _⟩) rfl (fun K hK => ?_) ?_
  have U0 : Below wh.heap.size wh (wh.drew.alloc (.cells #[] 23)) := (Below.refl _ _).drew.alloc (Nat.le_refl _) _
  go_simp
  refine hK.out _ _ ?_ (fun hHeld => ?_)
  · (exact ⟨Blk.below B_a U0, Blk.below B_m U0⟩)
  clear hK K
  (try simp only [pt_])
  refine wpAnyH_ready (rs := [3]) (by kernel_rfl) (by simp) ?_
  refine AllReadyH.cons (o := ⟨some 50, _, _, _, _, _⟩) rfl (fun K hK => ?_) ?_
  have RR := (hHd.below U0).row
  refine step_appSS (by rfl) _ _ (by rfl) wh.heap.size _ 0 0 [] (by rfl) (OwnC.nil0 _ _ _ _ _) x.ha x.hn x.hc (rs.map rowV) (by rfl) RR (one_rows rs) (by omega) U0.size ?_
  intro a5 c5 w5 oc5 u5 g5 m5
  simp only [Nat.zero_add, List.nil_append] at oc5 ⊢
  have U5 := U0.trans u5
  refine hK.out _ _ ?_ (fun hHeld => ?_)
  · (exact ⟨Blk.below B_a U5, Blk.below B_m U5⟩)
  clear hK K
  (try simp only [pt_])
  refine wpAnyH_ready (rs := [6]) (by kernel_rfl) (by simp) ?_
  refine AllReadyH.cons (o := ⟨some 53, _, _, _, _, _⟩) rfl (fun K hK => ?_) ?_
  go_simp
  refine (l1Own_any _ _ _ body _ (hMd.below U5) hn4).mono ?_
  rintro e wz ⟨b9, d9, rfl, o9, u9⟩
  have Uz := U5.trans (u9.mono U5.size)
  refine hK.out _ _ ?_ (fun hHeld => ?_)
  · (exact ⟨Blk.below B_a Uz, Blk.below B_m Uz⟩)
  clear hK K
  (try simp only [pt_])
  refine wpAnyH_ready (rs := [7]) (by kernel_rfl) (by simp) ?_
  refine AllReadyH.cons (o := ⟨some 54, _, _, _, _, _⟩) rfl (fun K hK => ?_) ?_
  have UA := Uz.alloc Uz.size (.cells #[.slice b9 body.length d9] 23)
  go_simp
  refine hK.out _ _ ?_ (fun hHeld => ?_)
  · (exact ⟨Blk.below B_a UA, Blk.below B_m UA⟩)
  clear hK K
  (try simp only [pt_])
  refine wpAnyH_ready (rs := [8]) (by kernel_rfl) (by simp) ?_
  refine AllReadyH.cons (o := ⟨some 55, _, _, _, _, _⟩) rfl (fun K hK => ?_) ?_
  have LIT := RowC.lit1 wz (rowV (b9, d9, body)) 23
  have o11 := Own.alloc o9 (.cells #[.slice b9 body.length d9] 23)
  have oc7 := OwnC.below (oc5.below u9) ((Below.refl _ _).alloc (Nat.le_refl _) (.cells #[.slice b9 body.length d9] 23))
  have F5 := oc5.feet
  refine step_appSS (by rfl) _ _ (by rfl) wh.heap.size a5 x.hn c5 (rs.map rowV) (by rfl) oc7 _ 1 1 [rowV (b9, d9, body)] (by rfl) LIT (by simp [rowV, Value.oneCell']) (by omega) UA.size ?_
  intro a8 c8 w8 oc8 u8 g8 m8
  have U8 := UA.trans u8
  have o12 := o11.only (Only.of_grown g8) (fun q hq hq' => by have := (o11.feet q hq).1; have := (F5 q hq').2; omega)
  have B8b := Blk.below B_b U8
  have y8 := B8b.cell 8
  have z8 := B8b.frozen 8
  refine hK.out _ _ ?_ (fun hHeld => ?_)
  · (exact ⟨Blk.below B_a U8, Blk.below B_m U8⟩)
  clear hK K
  (try simp only [pt_])
  refine tk (i := 9) (oi := ⟨some 56, _, _, _, _, _⟩) (v := ?v9_81) hHeld rfl ?y9_81 ?r9_81
  case y9_81 => (intro w _; first | (go_simp; first | done | with_reducible rfl) | with_reducible rfl)
  (try simp only [pt_])
  refine wpAnyH_ready (rs := [10]) (by kernel_rfl) (by simp) ?_
  refine AllReadyH.cons (o := ⟨none, _, _, _, _, _⟩) rfl (fun K hK => ?_) ?_
  go_simp
  refine hK.out _ _ ?_ (fun hHeld => ?_)
  · (exact ⟨Blk.only (Blk.below B_a U8) ((Only.refl [w.heap.size + 3] _).setCell ⟨w.heap.size + 3, 8, none⟩ _ (by simp)) (by simp), Blk.only (Blk.below B_m U8) ((Only.refl [w.heap.size + 3] _).setCell ⟨w.heap.size + 3, 8, none⟩ _ (by simp)) (by simp)⟩)
  clear hK K
  (try simp only [pt_])
  refine wpAnyH_done (by kernel_rfl) ?_ _
  refine NoPanic.normal ?_
  rotate_left 1
  exact AllReadyH.nil
  exact AllReadyH.nil
  exact AllReadyH.nil
  exact AllReadyH.nil
  exact AllReadyH.nil
  exact AllReadyH.nil
  have SWW : w.heap.size + 4 ≤ wh.heap.size := by omega
  have Q_oc8 := Lib.hid oc8.feet
  have off8 : Off F a8 (x.hn + 1) := fun hn y hy hq => by have := (oc8.range y (by have := oc8.row.2.1; omega) hy).1; have := hF _ hq; omega
  have off9 : Off F b9 body.length := fun hn y hy hq => by have := (o12.range y (by have := o12.row.2.1; omega) hy).1; have := hF _ hq; have := U5.size; omega
  have Q_o12 := Lib.hid (fun q hq => (show wh.heap.size ≤ q ∧ q < w8.heap.size from by have := o12.feet q hq; have := U5.size; omega))
  clear U0 U5 Uz UA u5 g5 m5 u9 oc5 oc7 o9 o11 LIT F5 u8 g8 m8 RR B8b y8 z8 hMd hHd
  clear e_a_8 e_m_2 e_b_8 f_b_8
  replace B_a := B_a.below U8
  replace B_m := B_m.below U8
  replace B_r := B_r.below U8
  replace B_b := B_b.below U8
  have S_w8 := U8.size
  have V_w8 : Below w.heap.size w w8 := V_wh.trans (U8.mono V_wh.size)
  clear V_wh
  clear U8
  have g_1 : Only [w.heap.size + 3] w8 (w8.setCell ⟨w.heap.size + 3, 8, none⟩ (.slice a8 (x.hn + 1) c8)) := (Only.refl _ _).setCell _ _ (by simp)
  replace B_b := B_b.set_ 8 (.slice a8 (x.hn + 1) c8)
  generalize w8.setCell ⟨w.heap.size + 3, 8, none⟩ (.slice a8 (x.hn + 1) c8) = w2' at *
  have G := g_1
  clear g_1
  simp only [List.setIfInBounds_toArray, List.set_cons_zero, List.set_cons_succ] at B_b
  have V_w2' := (V_w8).trans (G.below (V_w8).size (fun q hq => by have := (V_w8).size; simp at hq; omega))
  replace B_a := B_a.only G (by first | (simp; done) | (simp; omega))
  replace B_m := B_m.only G (by first | (simp; done) | (simp; omega))
  replace B_r := B_r.only G (by first | (simp; done) | (simp; omega))
  replace oc8 := oc8.only G (fun q hq hq' => by have := Q_oc8.out q hq; simp at hq'; omega)
  replace o12 := o12.only G (fun q hq hq' => by have := Q_o12.out q hq; simp at hq'; omega)
  have sG0 := G.size
  clear G
  clear V_w8
  have S_w2' : w8.heap.size + 0 ≤ w2'.heap.size := by omega
  clear sG0
  have HD : datas' (rs ++ [(b9, d9, body)]) = a.heard ++ [body] := by rw [← hD0.out]; simp [datas']
  replace HD := Lib.hid HD
  have e_b := B_b.all11
  have f_b := B_b.frz11
  have e_r := B_r.all11
  have f_r := B_r.frz11
  go_wp2
  clear e_b f_b e_r f_r
  have g_1 : Only [w.heap.size + 3] w2' (w2'.setCell ⟨w.heap.size + 3, 7, none⟩ (.int .i64 (a.step + 1))) := (Only.refl _ _).setCell _ _ (by simp)
  replace B_b := B_b.set_ 7 (.int .i64 (a.step + 1))
  generalize w2'.setCell ⟨w.heap.size + 3, 7, none⟩ (.int .i64 (a.step + 1)) = w3_1' at *
  have G := g_1
  clear g_1
  simp only [List.setIfInBounds_toArray, List.set_cons_zero, List.set_cons_succ] at B_b
  have V_w3'_0 := (V_w2').trans (G.below (V_w2').size (fun q hq => by have := (V_w2').size; simp at hq; omega))
  replace B_a := B_a.only G (by first | (simp; done) | (simp; omega))
  replace B_m := B_m.only G (by first | (simp; done) | (simp; omega))
  replace B_r := B_r.only G (by first | (simp; done) | (simp; omega))
  replace oc8 := oc8.only G (fun q hq hq' => by have := Q_oc8.out q hq; simp at hq'; omega)
  replace o12 := o12.only G (fun q hq hq' => by have := Q_o12.out q hq; simp at hq'; omega)
  have sG0 := G.size
  clear G
  clear V_w2'
  refine Exists.elim (B_r.row11 (.int .i64 a.P) (.int .i64 a.party) (.int .i64 a.input) (.int .i64 a.mask) (.int .i64 a.delta) (.slice x.sa x.sn x.sc) (.slice x.ka x.kn x.kc) (.int .i64 (a.step + 1)) (.slice a8 (x.hn + 1) c8) (.int .i64 a.status) (.int .i64 a.out)) (fun w3' q => ?_)
  rw [q.1]; replace B_r := q.2.1; have G := q.2.2; clear q
  have V_w3' := (V_w3'_0).trans (G.below (V_w3'_0).size (fun q hq => by have := (V_w3'_0).size; simp at hq; omega))
  replace B_a := B_a.only G (by first | (simp; done) | (simp; omega))
  replace B_m := B_m.only G (by first | (simp; done) | (simp; omega))
  replace B_b := B_b.only G (by first | (simp; done) | (simp; omega))
  replace oc8 := oc8.only G (fun q hq hq' => by have := Q_oc8.out q hq; simp at hq'; omega)
  replace o12 := o12.only G (fun q hq hq' => by have := Q_o12.out q hq; simp at hq'; omega)
  have sG1 := G.size
  clear G
  clear V_w3'_0
  have S_w3' : w2'.heap.size + 0 ≤ w3'.heap.size := by omega
  clear sG0 sG1
  have e_r := B_r.all11
  have HR : RowC w3' a8 (x.hn + 1) c8 1 ((rs ++ [(b9, d9, body)]).map rowV) := by rw [List.map_append]; exact oc8.row
  exact bodyPost_ret (v := .agg #[.int .i64 a.P, .int .i64 a.party, .int .i64 a.input, .int .i64 a.mask, .int .i64 a.delta, .slice x.sa x.sn x.sc, .slice x.ka x.kn x.kc, .int .i64 (a.step + 1), .slice a8 (x.hn + 1) c8, .int .i64 a.status, .int .i64 a.out]) (by simp [results, Tryd.results91, go_sem, e_r]) rfl ⟨⟨x.sa, x.sn, x.sc, x.ka, x.kn, x.kc, a8, x.hn + 1, c8⟩, rfl, ⟨hS0.below V_w3', hK0.below V_w3', rs ++ [(b9, d9, body)], ⟨HR, fun r hr => by
    rcases List.mem_append.1 hr with hr | hr
    · exact (hH0.inn r hr).below V_w3'
    · simp only [List.mem_singleton] at hr; subst hr; exact o12.ints⟩, HD.out, off1, off2, off8, fun r hr => by
    rcases List.mem_append.1 hr with hr | hr
    · exact off4 r hr
    · simp only [List.mem_singleton] at hr; subst hr; exact off9⟩, V_w3'⟩
end Go.Proofs.YtlmdckcohoddnaaDoor
namespace Go.Proofs.YtlmdckcohoddnaaDoor
open Go.RowKit
set_option maxHeartbeats 16000000 in
set_option maxRecDepth 100000 in
theorem ptTake_end (a : Pl) (x : PlX) (fr st : Int) (b : Option Addr) (n c : Nat) (body : List Int) (w : World) (F : List Nat) (hF : ∀ q ∈ F, q < w.heap.size) (hPB : PlB F w x a.shares a.keys a.heard) (hM : Ints w b n c body) (hN : PlN a) (hs : a.step ≤ 2) (hacc : accB a fr st body = true) (hs2 : a.step = 2) :
    Calls Tryd.prog 91 #[.agg #[.int .i64 a.P, .int .i64 a.party, .int .i64 a.input, .int .i64 a.mask, .int .i64 a.delta, .slice x.sa x.sn x.sc, .slice x.ka x.kn x.kc, .int .i64 a.step, .slice x.ha x.hn x.hc, .int .i64 a.status, .int .i64 a.out], .agg #[.int .i64 fr, .int .i64 st, .slice b n c]] w fun e w' => ∃ y, e = .returned (.agg #[.int .i64 a.P, .int .i64 a.party, .int .i64 a.input, .int .i64 a.mask, .int .i64 a.delta, .slice y.sa y.sn y.sc, .slice y.ka y.kn y.kc, .int .i64 (a.step + 1), .slice y.ha y.hn y.hc, .int .i64 1, .int .i64 ((thV a + body.getD 0 0) % a.P)]) ∧ PlB F w' y a.shares a.keys (a.heard ++ [body]) ∧ Below w.heap.size w w' := by
  obtain ⟨hb1, hb2, hb3, hb4, hb5⟩ := acc_all hacc
  have hnn := hM.len
  subst hnn
  have hb2' : body.length = 2 := by rw [hb3, hs2]; rfl
  obtain ⟨gm, om, hbm, hcm⟩ := hM.at 0 (by omega)
  subst hbm
  have hb0 := (allB_iff _ _ _).1 hb4 _ (getD_mem body 0 (by omega))
  have hth : 0 ≤ thV a ∧ thV a ≤ a.P - 1 := cmb_rng _ _ _ _ _ _ _ _ (by have := hN.p1; omega)
  have hp1' := hN.p1
  have hp2' := hN.p2
  have t6 : IntKind.i64.wrap (thV a + body.getD 0 0) = thV a + body.getD 0 0 := IntWalk.i64_in _ (by omega)
  have tm : (thV a + body.getD 0 0).tmod a.P = (thV a + body.getD 0 0) % a.P := Int.tmod_eq_emod_of_nonneg (by omega)
  have tz : ((a.P == 0) : Bool) = false := by simp; omega
  have tz' : ¬ a.P = 0 := by omega
  have CB := Lib.hid (fun (W : World) (h3 : PlR W x a.shares a.keys a.heard) => ptThird_any a x W h3 hN (by omega))
  have hgm := World.block_lt_of_cell? w _ hcm
  have hlt0 : (0 : Int) < (body.length : Int) := by omega
  have hlt1 : 0 < body.length := by omega
  simp only [Nat.add_zero] at hcm
  clear hb2' hth hb0 hp1' hp2'
  generalize thV a = th at *
  have fx0 : ∀ w' : World, (Instr.field 81 (.agg #[.int .i64 th, .int .i64 (thT a)]) 0).run Tryd.prog w' = .ok (.int .i64 th) w' := fun _ => by kernel_rfl
  generalize body.getD 0 0 = b0 at *
  have h := hPB.rd
  have LB := Lib.hid hPB
  clear hPB
  have hp1 := hN.p1
  have hp2 := hN.p2
  have hpa := hN.pa
  have hst := hN.stp
  have hnl := hM.le
  have t1 : IntKind.i64.wrap (1 - a.party) = 1 - a.party := IntWalk.i64_in _ (by omega)
  have t2 : IntKind.i64.wrap (a.P - 1) = a.P - 1 := IntWalk.i64_in _ (by omega)
  have CL : ∀ (W : World), Calls Tryd.prog 88 #[.int .i64 a.step] W fun e w' => e = .returned (.int .i64 (blen a.step.toNat)) ∧ Below W.heap.size W w' := fun W => by
    have := ptLength_any a.step.toNat W (by omega)
    rwa [Int.toNat_of_nonneg hst.1] at this
  have C4 := fun (W : World) (h2 : Ints W (some ⟨gm, om, none⟩) body.length c body) => ((l1All_any (some ⟨gm, om, none⟩) body.length c body 0 (a.P - 1) W h2).mono (fun _ _ ⟨he, hq⟩ => ⟨he, below_of_quiet hq⟩) : Calls Tryd.prog 100 #[.slice (some ⟨gm, om, none⟩) body.length c, .int .i64 0, .int .i64 (a.P - 1)] W fun e w' => e = .returned (.bool (allB body 0 (a.P - 1))) ∧ Below W.heap.size W w')
  have C5 := fun (hl : body.length = blen a.step.toNat) (hr : ∀ v ∈ body, 0 ≤ v ∧ v ≤ a.P - 1) (W : World) (h2 : PlR W x a.shares a.keys a.heard) (h3 : Ints W (some ⟨gm, om, none⟩) body.length c body) => ptHolds_any a x (some ⟨gm, om, none⟩) body.length c body W h2 h3 hN hs hl hr
  have t5 : IntKind.i64.wrap (a.step + 1) = a.step + 1 := IntWalk.i64_in _ (by omega)
  have d7 : ((a.step + 1 == 3) : Bool) = true := by simp; omega
  have hn4 : body.length ≤ 10000000 := by rw [hb3]; have := (blen_bd a.step.toNat).2; omega
  have hhl := hN.hl
  subst hb1
  have d1 : (((1 - a.party) != 1 - a.party) : Bool) = false := by simp
  subst hb2
  have d2 : ((a.step != a.step) : Bool) = false := by simp
  generalize hbn : blen a.step.toNat = B at *
  have d3 : (((body.length : Int) != (B : Int)) : Bool) = false := by simp; omega
  rw [hb4] at C4
  replace C5 := C5 hb3 ((allB_iff _ _ _).1 hb4)
  rw [hb5] at C5
  have LH := Lib.hid h
  have LM := Lib.hid hM
  replace CL := Lib.hid CL
  replace C4 := Lib.hid C4
  replace C5 := Lib.hid C5
  have hst2 : a.step ≤ 2 := hs
  clear h hM hN hs hacc hb3 hb4 hb5 hs2 hbn
  go_enter Tryd.func91, Tryd.ntmps91
  go_upto_region 2 with fail
  refine Exists.elim (Blk.new_ w (b := w.heap.size) rfl 31 #[.int .i64 a.P, .int .i64 a.party, .int .i64 a.input, .int .i64 a.mask, .int .i64 a.delta, .slice x.sa x.sn x.sc, .slice x.ka x.kn x.kc, .int .i64 a.step, .slice x.ha x.hn x.hc, .int .i64 a.status, .int .i64 a.out]) (fun w1_a0' q => ?_)
  rw [q.1]; have B_a := q.2.1; have s_w1_a0' := q.2.2.1; have u_w1_a0' := q.2.2.2; clear q
  refine Exists.elim (Blk.new_ w1_a0' (b := w.heap.size + 1) s_w1_a0' 44 #[.int .i64 (1 - a.party), .int .i64 a.step, .slice (some ⟨gm, om, none⟩) body.length c]) (fun w1_a1' q => ?_)
  rw [q.1]; have B_m := q.2.1; have s_w1_a1' := q.2.2.1; have u_w1_a1' := q.2.2.2; clear q
  refine Exists.elim (Blk.new_ w1_a1' (b := w.heap.size + 2) s_w1_a1' 31 #[.int .i64 0, .int .i64 0, .int .i64 0, .int .i64 0, .int .i64 0, .slice none 0 0, .slice none 0 0, .int .i64 0, .slice none 0 0, .int .i64 0, .int .i64 0]) (fun w1_a2' q => ?_)
  rw [q.1]; have B_r := q.2.1; have s_w1_a2' := q.2.2.1; have u_w1_a2' := q.2.2.2; clear q
  refine Exists.elim (Blk.new_ w1_a2' (b := w.heap.size + 3) s_w1_a2' 31 #[.int .i64 a.P, .int .i64 a.party, .int .i64 a.input, .int .i64 a.mask, .int .i64 a.delta, .slice x.sa x.sn x.sc, .slice x.ka x.kn x.kc, .int .i64 a.step, .slice x.ha x.hn x.hc, .int .i64 a.status, .int .i64 a.out]) (fun w1' q => ?_)
  rw [q.1]; have B_b := q.2.1; have s_w1' := q.2.2.1; have u_w1' := q.2.2.2; clear q
  replace B_a := (((B_a.below u_w1_a1').below u_w1_a2').below u_w1')
  replace B_m := ((B_m.below u_w1_a2').below u_w1')
  replace B_r := (B_r.below u_w1')
  have U := (u_w1_a0'.trans ((u_w1_a1'.trans ((u_w1_a2'.trans (u_w1'.mono u_w1_a2'.size)).mono u_w1_a1'.size)).mono u_w1_a0'.size))
  have S_w1' : w.heap.size + 4 ≤ w1'.heap.size := Nat.le_of_eq s_w1'.symm
  have V_w1' := (Below.refl w.heap.size w).trans (U.mono ((Below.refl w.heap.size w)).size)
  clear u_w1_a0' u_w1_a1' u_w1_a2' u_w1' s_w1_a0' s_w1_a1' s_w1_a2' s_w1' U
  try rw [show w.heap.size + 1 + 1 + 1 = w.heap.size + 3 from rfl]
  try rw [show w.heap.size + 1 + 1 = w.heap.size + 2 from rfl]
  have e_a_0 := B_a.a11_0
  have e_a_1 := B_a.a11_1
  have e_a_2 := B_a.a11_2
  have e_a_3 := B_a.a11_3
  have e_a_4 := B_a.a11_4
  have e_a_5 := B_a.a11_5
  have e_a_6 := B_a.a11_6
  have e_a_7 := B_a.a11_7
  have e_a_8 := B_a.a11_8
  have e_a_9 := B_a.a11_9
  have e_a_10 := B_a.a11_10
  have e_m_0 := B_m.a3_0
  have e_m_1 := B_m.a3_1
  have e_m_2 := B_m.a3_2
  have hRd := (LH.out.below V_w1').drew
  have hMd := (LM.out.below V_w1').below (Below.refl _ _).drew
  go_wp2
  go_region_held3 (fun W => W.cell? ⟨w.heap.size, 0, none⟩ = some (.int .i64 a.P) ∧ W.cell? ⟨w.heap.size, 1, none⟩ = some (.int .i64 a.party) ∧ W.cell? ⟨w.heap.size, 2, none⟩ = some (.int .i64 a.input) ∧ W.cell? ⟨w.heap.size, 3, none⟩ = some (.int .i64 a.mask) ∧ W.cell? ⟨w.heap.size, 4, none⟩ = some (.int .i64 a.delta) ∧ W.cell? ⟨w.heap.size, 5, none⟩ = some (.slice x.sa x.sn x.sc) ∧ W.cell? ⟨w.heap.size, 6, none⟩ = some (.slice x.ka x.kn x.kc) ∧ W.cell? ⟨w.heap.size, 7, none⟩ = some (.int .i64 a.step) ∧ W.cell? ⟨w.heap.size, 8, none⟩ = some (.slice x.ha x.hn x.hc) ∧ W.cell? ⟨w.heap.size, 9, none⟩ = some (.int .i64 a.status) ∧ W.cell? ⟨w.heap.size, 10, none⟩ = some (.int .i64 a.out) ∧ W.cell? ⟨w.heap.size + 1, 0, none⟩ = some (.int .i64 (1 - a.party)) ∧ W.cell? ⟨w.heap.size + 1, 1, none⟩ = some (.int .i64 a.step) ∧ W.cell? ⟨w.heap.size + 1, 2, none⟩ = some (.slice (some ⟨gm, om, none⟩) body.length c))
    (first | exact ⟨keepC uh (keepC ua (keepC ul (e_a_0))), keepC uh (keepC ua (keepC ul (e_a_1))), keepC uh (keepC ua (keepC ul (e_a_2))), keepC uh (keepC ua (keepC ul (e_a_3))), keepC uh (keepC ua (keepC ul (e_a_4))), keepC uh (keepC ua (keepC ul (e_a_5))), keepC uh (keepC ua (keepC ul (e_a_6))), keepC uh (keepC ua (keepC ul (e_a_7))), keepC uh (keepC ua (keepC ul (e_a_8))), keepC uh (keepC ua (keepC ul (e_a_9))), keepC uh (keepC ua (keepC ul (e_a_10))), keepC uh (keepC ua (keepC ul (e_m_0))), keepC uh (keepC ua (keepC ul (e_m_1))), keepC uh (keepC ua (keepC ul (e_m_2)))⟩ | exact ⟨keepC ua (keepC ul (e_a_0)), keepC ua (keepC ul (e_a_1)), keepC ua (keepC ul (e_a_2)), keepC ua (keepC ul (e_a_3)), keepC ua (keepC ul (e_a_4)), keepC ua (keepC ul (e_a_5)), keepC ua (keepC ul (e_a_6)), keepC ua (keepC ul (e_a_7)), keepC ua (keepC ul (e_a_8)), keepC ua (keepC ul (e_a_9)), keepC ua (keepC ul (e_a_10)), keepC ua (keepC ul (e_m_0)), keepC ua (keepC ul (e_m_1)), keepC ua (keepC ul (e_m_2))⟩ | exact ⟨keepC ul (e_a_0), keepC ul (e_a_1), keepC ul (e_a_2), keepC ul (e_a_3), keepC ul (e_a_4), keepC ul (e_a_5), keepC ul (e_a_6), keepC ul (e_a_7), keepC ul (e_a_8), keepC ul (e_a_9), keepC ul (e_a_10), keepC ul (e_m_0), keepC ul (e_m_1), keepC ul (e_m_2)⟩ | exact ⟨e_a, e_m⟩ | go_keep)
    (first | (go_at_call 88; refine (CL.out _).mono ?_; rintro e wl ⟨rfl, ul⟩) | (go_at_call 100; refine (C4.out _ (hMd.below ul)).mono ?_; rintro e wa ⟨rfl, ua⟩) | (go_at_call 121; refine (C5.out _ ((hRd.below ul).below ua) ((hMd.below ul).below ua)).mono ?_; rintro e wh ⟨rfl, uh⟩))
  have u9 : Below w1'.heap.size w1' wh := (Below.refl _ _).drew.trans (ul.trans ((ua.trans (uh.mono ua.size)).mono ul.size))
  clear hRd hMd ul ua uh
  clear e_a_0 e_a_1 e_a_2 e_a_3 e_a_4 e_a_5 e_a_6 e_a_7 e_a_8 e_a_9 e_a_10 e_m_0 e_m_1 e_m_2
  replace B_a := B_a.below u9
  replace B_m := B_m.below u9
  replace B_r := B_r.below u9
  replace B_b := B_b.below u9
  have S_wh := u9.size
  have V_wh : Below w.heap.size w wh := V_w1'.trans (u9.mono V_w1'.size)
  clear V_w1'
  clear u9
  obtain ⟨hS0, hK0, rs, hH0, hD0, off1, off2, off3, off4⟩ := LB.out
  have hrl := hH0.len
  have hrn : x.hn ≤ 2 := by have : rs.length = a.heard.length := by rw [← hD0, datas_len]
                            omega
  have hHd := hH0.below V_wh
  have hMd := LM.out.below V_wh
  have SV := V_wh.size
  replace hD0 := Lib.hid hD0
  have e_a_8 := B_a.a11_8
  have e_m_2 := B_m.a3_2
  have e_b_8 := B_b.a11_8
  have f_b_8 := B_b.frozen 8
  go_wp2
  refine wp_region_noPanic ?_
  refine wp_region_held_drew (S := (fun W => Blk W (w.heap.size) 31 #[.int .i64 a.P, .int .i64 a.party, .int .i64 a.input, .int .i64 a.mask, .int .i64 a.delta, .slice x.sa x.sn x.sc, .slice x.ka x.kn x.kc, .int .i64 a.step, .slice x.ha x.hn x.hc, .int .i64 a.status, .int .i64 a.out] ∧ Blk W (w.heap.size + 1) 44 #[.int .i64 (1 - a.party), .int .i64 a.step, .slice (some ⟨gm, om, none⟩) body.length c])) (by kernel_rfl) ?hS82 (fun hHeld => ?go82)
  case hS82 => exact ⟨B_a.drew, B_m.drew⟩
  refine tk (i := 1) (oi := ⟨some 48, _, _, _, _, _⟩) (v := ?v1_83) hHeld rfl ?y1_83 ?r1_83
  case y1_83 => (intro w _; first | (go_simp; first | done | with_reducible rfl) | with_reducible rfl)
  (try simp only [pt_])
  refine tk (i := 2) (oi := ⟨some 49, _, _, _, _, _⟩) (v := ?v2_84) hHeld rfl ?y2_84 ?r2_84
  case y2_84 => (intro w hSw; obtain ⟨qS0, qS1⟩ := hSw; have cS0 := qS0.all11; have cS1 := qS1.all3; first | (go_simp; first | done | with_reducible rfl) | with_reducible rfl)
  (try simp only [pt_])
  refine tk (i := 4) (oi := ⟨some 51, _, _, _, _, _⟩) (v := ?v4_85) hHeld rfl ?y4_85 ?r4_85
  case y4_85 => (intro w _; first | (go_simp; first | done | with_reducible rfl) | with_reducible rfl)
  (try simp only [pt_])
  refine tk (i := 5) (oi := ⟨some 52, _, _, _, _, _⟩) (v := ?v5_86) hHeld rfl ?y5_86 ?r5_86
  case y5_86 => (intro w hSw; obtain ⟨qS0, qS1⟩ := hSw; have cS0 := qS0.all11; have cS1 := qS1.all3; first | (go_simp; first | done | with_reducible rfl) | with_reducible rfl)
  (try simp only [pt_])
  refine wpAnyH_ready (rs := [0]) (by kernel_rfl) (by simp) ?_
  refine AllReadyH.cons (o := ⟨some 47, _, _, _, _, _⟩) rfl (fun K hK => ?_) ?_
  have U0 : Below wh.heap.size wh (wh.drew.alloc (.cells #[] 23)) := (Below.refl _ _).drew.alloc (Nat.le_refl _) _
  go_simp
  refine hK.out _ _ ?_ (fun hHeld => ?_)
  · (exact ⟨Blk.below B_a U0, Blk.below B_m U0⟩)
  clear hK K
  (try simp only [pt_])
  refine wpAnyH_ready (rs := [3]) (by kernel_rfl) (by simp) ?_
  refine AllReadyH.cons (o := ⟨some 50, _, _, _, _, _⟩) rfl (fun K hK => ?_) ?_
  have RR := (hHd.below U0).row
  refine step_appSS (by rfl) _ _ (by rfl) wh.heap.size _ 0 0 [] (by rfl) (OwnC.nil0 _ _ _ _ _) x.ha x.hn x.hc (rs.map rowV) (by rfl) RR (one_rows rs) (by omega) U0.size ?_
  intro a5 c5 w5 oc5 u5 g5 m5
  simp only [Nat.zero_add, List.nil_append] at oc5 ⊢
  have U5 := U0.trans u5
  refine hK.out _ _ ?_ (fun hHeld => ?_)
  · (exact ⟨Blk.below B_a U5, Blk.below B_m U5⟩)
  clear hK K
  (try simp only [pt_])
  refine wpAnyH_ready (rs := [6]) (by kernel_rfl) (by simp) ?_
  refine AllReadyH.cons (o := ⟨some 53, _, _, _, _, _⟩) rfl (fun K hK => ?_) ?_
  go_simp
  refine (l1Own_any _ _ _ body _ (hMd.below U5) hn4).mono ?_
  rintro e wz ⟨b9, d9, rfl, o9, u9⟩
  have Uz := U5.trans (u9.mono U5.size)
  refine hK.out _ _ ?_ (fun hHeld => ?_)
  · (exact ⟨Blk.below B_a Uz, Blk.below B_m Uz⟩)
  clear hK K
  (try simp only [pt_])
  refine wpAnyH_ready (rs := [7]) (by kernel_rfl) (by simp) ?_
  refine AllReadyH.cons (o := ⟨some 54, _, _, _, _, _⟩) rfl (fun K hK => ?_) ?_
  have UA := Uz.alloc Uz.size (.cells #[.slice b9 body.length d9] 23)
  go_simp
  refine hK.out _ _ ?_ (fun hHeld => ?_)
  · (exact ⟨Blk.below B_a UA, Blk.below B_m UA⟩)
  clear hK K
  (try simp only [pt_])
  refine wpAnyH_ready (rs := [8]) (by kernel_rfl) (by simp) ?_
  refine AllReadyH.cons (o := ⟨some 55, _, _, _, _, _⟩) rfl (fun K hK => ?_) ?_
  have LIT := RowC.lit1 wz (rowV (b9, d9, body)) 23
  have o11 := Own.alloc o9 (.cells #[.slice b9 body.length d9] 23)
  have oc7 := OwnC.below (oc5.below u9) ((Below.refl _ _).alloc (Nat.le_refl _) (.cells #[.slice b9 body.length d9] 23))
  have F5 := oc5.feet
  refine step_appSS (by rfl) _ _ (by rfl) wh.heap.size a5 x.hn c5 (rs.map rowV) (by rfl) oc7 _ 1 1 [rowV (b9, d9, body)] (by rfl) LIT (by simp [rowV, Value.oneCell']) (by omega) UA.size ?_
  intro a8 c8 w8 oc8 u8 g8 m8
  have U8 := UA.trans u8
  have o12 := o11.only (Only.of_grown g8) (fun q hq hq' => by have := (o11.feet q hq).1; have := (F5 q hq').2; omega)
  have B8b := Blk.below B_b U8
  have y8 := B8b.cell 8
  have z8 := B8b.frozen 8
  refine hK.out _ _ ?_ (fun hHeld => ?_)
  · (exact ⟨Blk.below B_a U8, Blk.below B_m U8⟩)
  clear hK K
  (try simp only [pt_])
  refine tk (i := 9) (oi := ⟨some 56, _, _, _, _, _⟩) (v := ?v9_87) hHeld rfl ?y9_87 ?r9_87
  case y9_87 => (intro w _; first | (go_simp; first | done | with_reducible rfl) | with_reducible rfl)
  (try simp only [pt_])
  refine wpAnyH_ready (rs := [10]) (by kernel_rfl) (by simp) ?_
  refine AllReadyH.cons (o := ⟨none, _, _, _, _, _⟩) rfl (fun K hK => ?_) ?_
  go_simp
  refine hK.out _ _ ?_ (fun hHeld => ?_)
  · (exact ⟨Blk.only (Blk.below B_a U8) ((Only.refl [w.heap.size + 3] _).setCell ⟨w.heap.size + 3, 8, none⟩ _ (by simp)) (by simp), Blk.only (Blk.below B_m U8) ((Only.refl [w.heap.size + 3] _).setCell ⟨w.heap.size + 3, 8, none⟩ _ (by simp)) (by simp)⟩)
  clear hK K
  (try simp only [pt_])
  refine wpAnyH_done (by kernel_rfl) ?_ _
  refine NoPanic.normal ?_
  rotate_left 1
  exact AllReadyH.nil
  exact AllReadyH.nil
  exact AllReadyH.nil
  exact AllReadyH.nil
  exact AllReadyH.nil
  exact AllReadyH.nil
  have SWW : w.heap.size + 4 ≤ wh.heap.size := by omega
  have Q_oc8 := Lib.hid oc8.feet
  have off8 : Off F a8 (x.hn + 1) := fun hn y hy hq => by have := (oc8.range y (by have := oc8.row.2.1; omega) hy).1; have := hF _ hq; omega
  have off9 : Off F b9 body.length := fun hn y hy hq => by have := (o12.range y (by have := o12.row.2.1; omega) hy).1; have := hF _ hq; have := U5.size; omega
  have Q_o12 := Lib.hid (fun q hq => (show wh.heap.size ≤ q ∧ q < w8.heap.size from by have := o12.feet q hq; have := U5.size; omega))
  clear U0 U5 Uz UA u5 g5 m5 u9 oc5 oc7 o9 o11 LIT F5 u8 g8 m8 RR B8b y8 z8 hMd hHd
  clear e_a_8 e_m_2 e_b_8 f_b_8
  replace B_a := B_a.below U8
  replace B_m := B_m.below U8
  replace B_r := B_r.below U8
  replace B_b := B_b.below U8
  have S_w8 := U8.size
  have V_w8 : Below w.heap.size w w8 := V_wh.trans (U8.mono V_wh.size)
  clear V_wh
  clear U8
  have g_1 : Only [w.heap.size + 3] w8 (w8.setCell ⟨w.heap.size + 3, 8, none⟩ (.slice a8 (x.hn + 1) c8)) := (Only.refl _ _).setCell _ _ (by simp)
  replace B_b := B_b.set_ 8 (.slice a8 (x.hn + 1) c8)
  generalize w8.setCell ⟨w.heap.size + 3, 8, none⟩ (.slice a8 (x.hn + 1) c8) = w2' at *
  have G := g_1
  clear g_1
  simp only [List.setIfInBounds_toArray, List.set_cons_zero, List.set_cons_succ] at B_b
  have V_w2' := (V_w8).trans (G.below (V_w8).size (fun q hq => by have := (V_w8).size; simp at hq; omega))
  replace B_a := B_a.only G (by first | (simp; done) | (simp; omega))
  replace B_m := B_m.only G (by first | (simp; done) | (simp; omega))
  replace B_r := B_r.only G (by first | (simp; done) | (simp; omega))
  replace oc8 := oc8.only G (fun q hq hq' => by have := Q_oc8.out q hq; simp at hq'; omega)
  replace o12 := o12.only G (fun q hq hq' => by have := Q_o12.out q hq; simp at hq'; omega)
  have sG0 := G.size
  clear G
  clear V_w8
  have S_w2' : w8.heap.size + 0 ≤ w2'.heap.size := by omega
  clear sG0
  have HD : datas' (rs ++ [(b9, d9, body)]) = a.heard ++ [body] := by rw [← hD0.out]; simp [datas']
  replace HD := Lib.hid HD
  have e_b := B_b.all11
  have f_b := B_b.frz11
  have e_r := B_r.all11
  have f_r := B_r.frz11
  go_wp2
  clear e_b f_b e_r f_r
  have g_1 : Only [w.heap.size + 3] w2' (w2'.setCell ⟨w.heap.size + 3, 7, none⟩ (.int .i64 (a.step + 1))) := (Only.refl _ _).setCell _ _ (by simp)
  replace B_b := B_b.set_ 7 (.int .i64 (a.step + 1))
  generalize w2'.setCell ⟨w.heap.size + 3, 7, none⟩ (.int .i64 (a.step + 1)) = w3_1' at *
  have G := g_1
  clear g_1
  have g_2 : Only [w.heap.size + 3] w3_1' (w3_1'.setCell ⟨w.heap.size + 3, 9, none⟩ (.int .i64 1)) := (Only.refl _ _).setCell _ _ (by simp)
  replace B_b := B_b.set_ 9 (.int .i64 1)
  generalize w3_1'.setCell ⟨w.heap.size + 3, 9, none⟩ (.int .i64 1) = w3' at *
  replace G := G.trans g_2
  clear g_2
  simp only [List.setIfInBounds_toArray, List.set_cons_zero, List.set_cons_succ] at B_b
  have V_w3' := (V_w2').trans (G.below (V_w2').size (fun q hq => by have := (V_w2').size; simp at hq; omega))
  replace B_a := B_a.only G (by first | (simp; done) | (simp; omega))
  replace B_m := B_m.only G (by first | (simp; done) | (simp; omega))
  replace B_r := B_r.only G (by first | (simp; done) | (simp; omega))
  replace oc8 := oc8.only G (fun q hq hq' => by have := Q_oc8.out q hq; simp at hq'; omega)
  replace o12 := o12.only G (fun q hq hq' => by have := Q_o12.out q hq; simp at hq'; omega)
  have sG0 := G.size
  clear G
  clear V_w2'
  have S_w3' : w2'.heap.size + 0 ≤ w3'.heap.size := by omega
  clear sG0
  have m6 := keepC V_w3'.drew hcm
  have hR6 := (LH.out.below V_w3').drew
  have e_a_0 := B_a.a11_0
  have e_a_1 := B_a.a11_1
  have e_a_2 := B_a.a11_2
  have e_a_3 := B_a.a11_3
  have e_a_4 := B_a.a11_4
  have e_a_5 := B_a.a11_5
  have e_a_6 := B_a.a11_6
  have e_a_7 := B_a.a11_7
  have e_a_8 := B_a.a11_8
  have e_a_9 := B_a.a11_9
  have e_a_10 := B_a.a11_10
  have e_m_0 := B_m.a3_0
  have e_m_1 := B_m.a3_1
  have e_m_2 := B_m.a3_2
  have e_b_10 := B_b.a11_10
  have f_b_10 := B_b.frozen 10
  go_wp2
  refine wp_region_noPanic ?_
  refine wp_region_held_drew (S := (fun W => Blk W (w.heap.size) 31 #[.int .i64 a.P, .int .i64 a.party, .int .i64 a.input, .int .i64 a.mask, .int .i64 a.delta, .slice x.sa x.sn x.sc, .slice x.ka x.kn x.kc, .int .i64 a.step, .slice x.ha x.hn x.hc, .int .i64 a.status, .int .i64 a.out] ∧ Blk W (w.heap.size + 1) 44 #[.int .i64 (1 - a.party), .int .i64 a.step, .slice (some ⟨gm, om, none⟩) body.length c] ∧ W.cell? ⟨gm, om, none⟩ = some (.int .i64 b0))) (by kernel_rfl) ?hS88 (fun hHeld => ?go88)
  case hS88 => exact ⟨B_a.drew, B_m.drew, m6⟩
  refine tk (i := 0) (oi := ⟨some 65, _, _, _, _, _⟩) (v := ?v0_89) hHeld rfl ?y0_89 ?r0_89
  case y0_89 => (intro w hSw; obtain ⟨qS0, qS1, qS2⟩ := hSw; have cS0 := qS0.all11; have cS1 := qS1.all3; first | (go_simp; first | done | with_reducible rfl) | with_reducible rfl)
  (try simp only [pt_])
  refine tk (i := 3) (oi := ⟨some 68, _, _, _, _, _⟩) (v := ?v3_90) hHeld rfl ?y3_90 ?r3_90
  case y3_90 => (intro w _; first | (go_simp; first | done | with_reducible rfl) | with_reducible rfl)
  (try simp only [pt_])
  refine tk (i := 4) (oi := ⟨some 69, _, _, _, _, _⟩) (v := ?v4_91) hHeld rfl ?y4_91 ?r4_91
  case y4_91 => (intro w hSw; obtain ⟨qS0, qS1, qS2⟩ := hSw; have cS0 := qS0.all11; have cS1 := qS1.all3; first | (go_simp; first | done | with_reducible rfl) | with_reducible rfl)
  (try simp only [pt_])
  refine tk (i := 5) (oi := ⟨some 70, _, _, _, _, _⟩) (v := ?v5_92) hHeld rfl ?y5_92 ?r5_92
  case y5_92 => (intro w _; first | (go_simp; first | done | with_reducible rfl) | with_reducible rfl)
  (try simp only [pt_])
  refine tk (i := 6) (oi := ⟨some 71, _, _, _, _, _⟩) (v := ?v6_93) hHeld rfl ?y6_93 ?r6_93
  case y6_93 => (intro w hSw; obtain ⟨qS0, qS1, qS2⟩ := hSw; have cS0 := qS0.all11; have cS1 := qS1.all3; first | (go_simp; first | done | with_reducible rfl) | with_reducible rfl)
  (try simp only [pt_])
  refine tk (i := 8) (oi := ⟨some 73, _, _, _, _, _⟩) (v := ?v8_94) hHeld rfl ?y8_94 ?r8_94
  case y8_94 => (intro w _; first | (go_simp; first | done | with_reducible rfl) | with_reducible rfl)
  (try simp only [pt_])
  refine tk (i := 9) (oi := ⟨some 74, _, _, _, _, _⟩) (v := ?v9_95) hHeld rfl ?y9_95 ?r9_95
  case y9_95 => (intro w hSw; obtain ⟨qS0, qS1, qS2⟩ := hSw; have cS0 := qS0.all11; have cS1 := qS1.all3; first | (go_simp; first | done | with_reducible rfl) | with_reducible rfl)
  (try simp only [pt_])
  refine wpAnyH_ready (rs := [1]) (by kernel_rfl) (by simp) ?_
  refine AllReadyH.cons (o := ⟨some 66, _, _, _, _, _⟩) rfl (fun K hK => ?_) ?_
  go_simp
  refine (CB.out _ hR6).mono ?_
  rintro e wy ⟨rfl, u9⟩
  have A9 := Blk.below B_a.drew u9
  have M9 := Blk.below B_m.drew u9
  have B9 := Blk.below B_b.drew u9
  have m9 := keepC u9 m6
  have r10 := B9.cell 10
  have p10 := B9.frozen 10
  refine hK.out _ _ ?_ (fun hHeld => ?_)
  · (exact ⟨A9, M9, m9⟩)
  clear hK K
  (try simp only [pt_])
  refine tk (i := 2) (oi := ⟨some 67, _, _, _, _, _⟩) (v := ?v2_96) hHeld rfl ?y2_96 ?r2_96
  case y2_96 => (intro w _; first | (go_simp; first | done | with_reducible rfl) | with_reducible rfl)
  (try simp only [pt_])
  refine tk (i := 7) (oi := ⟨some 72, _, _, _, _, _⟩) (v := ?v7_97) hHeld rfl ?y7_97 ?r7_97
  case y7_97 => (intro w _; first | (go_simp; first | done | with_reducible rfl) | with_reducible rfl)
  (try simp only [pt_])
  refine tk (i := 10) (oi := ⟨some 75, _, _, _, _, _⟩) (v := ?v10_98) hHeld rfl ?y10_98 ?r10_98
  case y10_98 => (intro w _; first | (go_simp; first | done | with_reducible rfl) | with_reducible rfl)
  (try simp only [pt_])
  refine tk (i := 11) (oi := ⟨some 76, _, _, _, _, _⟩) (v := ?v11_99) hHeld rfl ?y11_99 ?r11_99
  case y11_99 => (intro w _; first | (go_simp; first | done | with_reducible rfl) | with_reducible rfl)
  (try simp only [pt_])
  refine wpAnyH_ready (rs := [12]) (by kernel_rfl) (by simp) ?_
  refine AllReadyH.cons (o := ⟨none, _, _, _, _, _⟩) rfl (fun K hK => ?_) ?_
  go_simp
  refine hK.out _ _ ?_ (fun hHeld => ?_)
  · (exact ⟨Blk.only A9 ((Only.refl [w.heap.size + 3] _).setCell ⟨w.heap.size + 3, 10, none⟩ _ (by simp)) (by simp), Blk.only M9 ((Only.refl [w.heap.size + 3] _).setCell ⟨w.heap.size + 3, 10, none⟩ _ (by simp)) (by simp), cellFarP m9 (show gm ≠ w.heap.size + 3 by omega)⟩)
  clear hK K
  (try simp only [pt_])
  refine wpAnyH_done (by kernel_rfl) ?_ _
  refine NoPanic.normal ?_
  rotate_left 1
  exact AllReadyH.nil
  exact AllReadyH.nil
  have uA : Below w3'.heap.size w3' wy := (Below.refl _ _).drew.trans u9
  clear A9 M9 B9 m9 r10 p10 u9 m6 hR6
  clear e_a_0 e_a_1 e_a_2 e_a_3 e_a_4 e_a_5 e_a_6 e_a_7 e_a_8 e_a_9 e_a_10 e_m_0 e_m_1 e_m_2 e_b_10 f_b_10
  replace B_a := B_a.below uA
  replace B_m := B_m.below uA
  replace B_r := B_r.below uA
  replace B_b := B_b.below uA
  replace oc8 := oc8.below uA
  replace o12 := o12.below uA
  have S_wy := uA.size
  have V_wy : Below w.heap.size w wy := V_w3'.trans (uA.mono V_w3'.size)
  clear V_w3'
  clear uA
  have g_1 : Only [w.heap.size + 3] wy (wy.setCell ⟨w.heap.size + 3, 10, none⟩ (.int .i64 ((th + b0) % a.P))) := (Only.refl _ _).setCell _ _ (by simp)
  replace B_b := B_b.set_ 10 (.int .i64 ((th + b0) % a.P))
  generalize wy.setCell ⟨w.heap.size + 3, 10, none⟩ (.int .i64 ((th + b0) % a.P)) = w4' at *
  have G := g_1
  clear g_1
  simp only [List.setIfInBounds_toArray, List.set_cons_zero, List.set_cons_succ] at B_b
  have V_w4' := (V_wy).trans (G.below (V_wy).size (fun q hq => by have := (V_wy).size; simp at hq; omega))
  replace B_a := B_a.only G (by first | (simp; done) | (simp; omega))
  replace B_m := B_m.only G (by first | (simp; done) | (simp; omega))
  replace B_r := B_r.only G (by first | (simp; done) | (simp; omega))
  replace oc8 := oc8.only G (fun q hq hq' => by have := Q_oc8.out q hq; simp at hq'; omega)
  replace o12 := o12.only G (fun q hq hq' => by have := Q_o12.out q hq; simp at hq'; omega)
  have sG0 := G.size
  clear G
  clear V_wy
  have S_w4' : wy.heap.size + 0 ≤ w4'.heap.size := by omega
  clear sG0
  have e_b := B_b.all11
  have e_r := B_r.all11
  have f_r := B_r.frz11
  go_wp2
  clear e_b e_r f_r
  refine Exists.elim (B_r.row11 (.int .i64 a.P) (.int .i64 a.party) (.int .i64 a.input) (.int .i64 a.mask) (.int .i64 a.delta) (.slice x.sa x.sn x.sc) (.slice x.ka x.kn x.kc) (.int .i64 (a.step + 1)) (.slice a8 (x.hn + 1) c8) (.int .i64 1) (.int .i64 ((th + b0) % a.P))) (fun w5' q => ?_)
  rw [q.1]; replace B_r := q.2.1; have G := q.2.2; clear q
  have V_w5' := (V_w4').trans (G.below (V_w4').size (fun q hq => by have := (V_w4').size; simp at hq; omega))
  replace B_a := B_a.only G (by first | (simp; done) | (simp; omega))
  replace B_m := B_m.only G (by first | (simp; done) | (simp; omega))
  replace B_b := B_b.only G (by first | (simp; done) | (simp; omega))
  replace oc8 := oc8.only G (fun q hq hq' => by have := Q_oc8.out q hq; simp at hq'; omega)
  replace o12 := o12.only G (fun q hq hq' => by have := Q_o12.out q hq; simp at hq'; omega)
  have sG0 := G.size
  clear G
  clear V_w4'
  have S_w5' : w4'.heap.size + 0 ≤ w5'.heap.size := by omega
  clear sG0
  have e_r := B_r.all11
  have HR : RowC w5' a8 (x.hn + 1) c8 1 ((rs ++ [(b9, d9, body)]).map rowV) := by rw [List.map_append]; exact oc8.row
  exact bodyPost_ret (v := .agg #[.int .i64 a.P, .int .i64 a.party, .int .i64 a.input, .int .i64 a.mask, .int .i64 a.delta, .slice x.sa x.sn x.sc, .slice x.ka x.kn x.kc, .int .i64 (a.step + 1), .slice a8 (x.hn + 1) c8, .int .i64 1, .int .i64 ((th + b0) % a.P)]) (by simp [results, Tryd.results91, go_sem, e_r]) rfl ⟨⟨x.sa, x.sn, x.sc, x.ka, x.kn, x.kc, a8, x.hn + 1, c8⟩, rfl, ⟨hS0.below V_w5', hK0.below V_w5', rs ++ [(b9, d9, body)], ⟨HR, fun r hr => by
    rcases List.mem_append.1 hr with hr | hr
    · exact (hH0.inn r hr).below V_w5'
    · simp only [List.mem_singleton] at hr; subst hr; exact o12.ints⟩, HD.out, off1, off2, off8, fun r hr => by
    rcases List.mem_append.1 hr with hr | hr
    · exact off4 r hr
    · simp only [List.mem_singleton] at hr; subst hr; exact off9⟩, V_w5'⟩
end Go.Proofs.YtlmdckcohoddnaaDoor
