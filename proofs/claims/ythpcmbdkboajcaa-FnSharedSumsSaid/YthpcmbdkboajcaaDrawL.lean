/- Draws for local gates. -/
import Derived.Test.YthpcmbdkboajcaaDrawB
namespace Go.Proofs.Ythpcmbdkboajcaa
open Go.RowKit
theorem l1Most_same (a b : Int) (w : World) :
    Calls Try.prog 62 #[.int .i64 a, .int .i64 b] w fun e w' => e = .returned (.int .i64 (max a b)) ∧ w' = w := by
  by_cases h : a > b
  all_goals
    go_enter Try.func62, Try.ntmps62
    go_wp2
    go_ret
    exact ⟨ret_int (by omega), rfl⟩
def LgP (w : World) (e : Ending) (w' : World) : Prop := ∃ (P i0 i1 : Int) (ga : Option Addr) (gn gc : Nat) (G : List Int) (oa : Option Addr) (on oc : Nat) (O : List Int) (p q : Int) (sa : Option Addr) (sn sc : Nat) (S : List Int),
  e = .returned (.tuple #[.agg #[.int .i64 P, .int .i64 i0, .int .i64 i1, .slice ga gn gc, .slice oa on oc], .int .i64 p, .int .i64 q, .slice sa sn sc]) ∧ Flat 3 w' ga gn gc G ∧ Ints w' oa on oc O ∧ Ints w' sa sn sc S ∧ Below w.heap.size w w'
set_option maxHeartbeats 8000000 in
set_option maxRecDepth 100000 in
theorem DrawLocalGate_any (a : Option Addr) (n c : Nat) (w : World) (h : Cod w w.heap.size a n c) :
    Calls Try.prog 17 #[.slice a n c] w (LgP w) := by
  have V0 : Below w.heap.size w (w.alloc (.cells #[.int .i64 0, .int .i64 0, .int .i64 0, .slice none 0 0, .slice none 0 0] 41)) := (Below.refl _ _).alloc (Nat.le_refl _) _
  have hr : Blk (w.alloc (.cells #[.int .i64 0, .int .i64 0, .int .i64 0, .slice none 0 0, .slice none 0 0] 41)) w.heap.size 41 #[.int .i64 0, .int .i64 0, .int .i64 0, .slice none 0 0, .slice none 0 0] := Blk.new w _ _
  have h' := h.belowAll V0
  have hs0 : w.heap.size < (w.alloc (.cells #[.int .i64 0, .int .i64 0, .int .i64 0, .slice none 0 0, .slice none 0 0] 41)).heap.size := by simp
  go_enter Try.func17, Try.ntmps17
  go_upto_region 1 with fail
  generalize (w.alloc (.cells #[.int .i64 0, .int .i64 0, .int .i64 0, .slice none 0 0, .slice none 0 0] 41)) = w0 at *

  go_wp2_with fail
  have C_w1' : Cur (w0.alloc (.cells #[.slice a n c, .int .i64 0, .int .u64 0] 62)) w0.heap.size 0 := Cur.of_new h'
  have V_w1' : Below w0.heap.size w0 (w0.alloc (.cells #[.slice a n c, .int .i64 0, .int .u64 0] 62)) := (Below.refl _ _).alloc (Nat.le_refl _) _
  have S_w1' : w0.heap.size < (w0.alloc (.cells #[.slice a n c, .int .i64 0, .int .u64 0] 62)).heap.size := by simp
  generalize (w0.alloc (.cells #[.slice a n c, .int .i64 0, .int .u64 0] 62)) = w1' at *
  have B_r := hr.below V_w1'
  clear hr

  refine (anyArith_any w0.heap.size _ _ C_w1' (by omega)).mono ?_
  rintro e w2' ⟨P, i0, i1, ga, gn, gc, G, oa, on, oc, O, k_w2', rfl, hP, hi0, hi1, hgn, hon, og, oo, q_w2', C_w2', o_w2'⟩
  have V_w2' := V_w1'.trans (o_w2'.below1 (Nat.le_refl _) V_w1'.size)
  replace B_r := B_r.only o_w2' (by simp; omega)
  have S_w2' := o_w2'.size
  clear o_w2' V_w1'
  go_upto_region 3 with fail
  refine Exists.elim (Blk.new_ w2' (b := w2'.heap.size) rfl 41 #[.int .i64 P, .int .i64 i0, .int .i64 i1, .slice ga gn gc, .slice oa on oc]) (fun w3' q => ?_)
  rw [q.1]; have B_x := q.2.1; have s_w3' := q.2.2.1; have u_w3' := q.2.2.2; clear q
  replace B_r := B_r.below u_w3'
  replace og := og.below u_w3'
  replace oo := oo.below u_w3'
  have C_w3' := C_w2'.below u_w3'
  have S_w3' : w2'.heap.size + 1 ≤ w3'.heap.size := Nat.le_of_eq s_w3'.symm
  have V_w3' := V_w2'.trans (u_w3'.mono (V_w2').size)
  clear u_w3' s_w3' V_w2'
  have hbx : w0.heap.size < w2'.heap.size := by omega
  generalize w2'.heap.size = bx at *



  have e_x_0 : w3'.cell? ⟨bx, 0, none⟩ = some (.int .i64 P) := B_x.cell 0
  have e_x_1 : w3'.cell? ⟨bx, 1, none⟩ = some (.int .i64 i0) := B_x.cell 1
  have e_x_2 : w3'.cell? ⟨bx, 2, none⟩ = some (.int .i64 i1) := B_x.cell 2
  have e_x_3 : w3'.cell? ⟨bx, 3, none⟩ = some (.slice ga gn gc) := B_x.cell 3
  have e_x_4 : w3'.cell? ⟨bx, 4, none⟩ = some (.slice oa on oc) := B_x.cell 4
  go_wp2_with fail
  clear e_x_0 e_x_1 e_x_2 e_x_3 e_x_4
  refine (pick_any w0.heap.size _ ((gn : Int) + 1) _ C_w3' (by omega)).mono ?_
  rintro e w4' ⟨kk, k_w4', rfl, k0, k1, k2, q_w4', C_w4', o_w4'⟩
  have V_w4' := V_w3'.trans (o_w4'.below1 (Nat.le_refl _) V_w3'.size)
  replace og := og.cur o_w4' (by omega)
  replace oo := oo.cur o_w4' (by omega)
  replace B_r := B_r.only o_w4' (by simp; omega)
  replace B_x := B_x.only o_w4' (by simp; omega)
  have S_w4' := o_w4'.size
  clear o_w4' V_w3'
  have kk2 : kk ≤ 200 := by omega
  clear k1 k2
  obtain ⟨hi0a, hi0b⟩ := hi0
  obtain ⟨hi1a, hi1b⟩ := hi1
  have t1 : IntKind.i64.wrap (i0 + i1) = i0 + i1 := IntWalk.i64_in _ (by omega)
  have t2 : IntKind.i64.wrap (i0 + i1 + kk) = i0 + i1 + kk := IntWalk.i64_in _ (by omega)
  go_upto_region 4 with fail
  refine wp_region_noPanic ?_
  refine wp_region_held_drew (S := (fun W => Blk W (bx) 41 #[.int .i64 P, .int .i64 i0, .int .i64 i1, .slice ga gn gc, .slice oa on oc])) (by kernel_rfl) ?hS34 (fun hHeld => ?go34)
  case hS34 => exact B_x.drew
  refine tk (i := 0) (oi := ⟨some 20, _, _, _, _, _⟩) (v := ?v0_35) hHeld rfl ?y0_35 ?r0_35
  case y0_35 => (intro w qS0; have cS0_0 := qS0.cell 0; have cS0_1 := qS0.cell 1; have cS0_2 := qS0.cell 2; have cS0_3 := qS0.cell 3; have cS0_4 := qS0.cell 4; first | (go_simp; done) | (go_simp; with_reducible rfl) | (with_reducible rfl))
  (try simp only [pt_])
  refine tk (i := 1) (oi := ⟨some 21, _, _, _, _, _⟩) (v := ?v1_36) hHeld rfl ?y1_36 ?r1_36
  case y1_36 => (intro w _; first | (go_simp; done) | (go_simp; with_reducible rfl) | (with_reducible rfl))
  (try simp only [pt_])
  refine tk (i := 3) (oi := ⟨some 23, _, _, _, _, _⟩) (v := ?v3_37) hHeld rfl ?y3_37 ?r3_37
  case y3_37 => (intro w _; first | (go_simp; done) | (go_simp; with_reducible rfl) | (with_reducible rfl))
  (try simp only [pt_])
  refine tk (i := 7) (oi := ⟨some 27, _, _, _, _, _⟩) (v := ?v7_38) hHeld rfl ?y7_38 ?r7_38
  case y7_38 => (intro w _; first | (go_simp; done) | (go_simp; with_reducible rfl) | (with_reducible rfl))
  (try simp only [pt_])
  refine tk (i := 8) (oi := ⟨some 28, _, _, _, _, _⟩) (v := ?v8_39) hHeld rfl ?y8_39 ?r8_39
  case y8_39 => (intro w _; first | (go_simp; done) | (go_simp; with_reducible rfl) | (with_reducible rfl))
  (try simp only [pt_])
  refine tk (i := 9) (oi := ⟨some 29, _, _, _, _, _⟩) (v := ?v9_40) hHeld rfl ?y9_40 ?r9_40
  case y9_40 => (intro w _; first | (go_simp; done) | (go_simp; with_reducible rfl) | (with_reducible rfl))
  (try simp only [pt_])
  refine tk (i := 10) (oi := ⟨some 30, _, _, _, _, _⟩) (v := ?v10_41) hHeld rfl ?y10_41 ?r10_41
  case y10_41 => (intro w qS0; have cS0_0 := qS0.cell 0; have cS0_1 := qS0.cell 1; have cS0_2 := qS0.cell 2; have cS0_3 := qS0.cell 3; have cS0_4 := qS0.cell 4; first | (go_simp; done) | (go_simp; with_reducible rfl) | (with_reducible rfl))
  (try simp only [pt_])
  refine tk (i := 11) (oi := ⟨some 31, _, _, _, _, _⟩) (v := ?v11_42) hHeld rfl ?y11_42 ?r11_42
  case y11_42 => (intro w _; first | (go_simp; done) | (go_simp; with_reducible rfl) | (with_reducible rfl))
  (try simp only [pt_])
  refine tk (i := 12) (oi := ⟨some 32, _, _, _, _, _⟩) (v := ?v12_43) hHeld rfl ?y12_43 ?r12_43
  case y12_43 => (intro w qS0; have cS0_0 := qS0.cell 0; have cS0_1 := qS0.cell 1; have cS0_2 := qS0.cell 2; have cS0_3 := qS0.cell 3; have cS0_4 := qS0.cell 4; first | (go_simp; done) | (go_simp; with_reducible rfl) | (with_reducible rfl))
  (try simp only [pt_])
  refine tk (i := 13) (oi := ⟨some 33, _, _, _, _, _⟩) (v := ?v13_44) hHeld rfl ?y13_44 ?r13_44
  case y13_44 => (intro w _; first | (go_simp; done) | (go_simp; with_reducible rfl) | (with_reducible rfl))
  (try simp only [pt_])
  refine tk (i := 14) (oi := ⟨some 34, _, _, _, _, _⟩) (v := ?v14_45) hHeld rfl ?y14_45 ?r14_45
  case y14_45 => (intro w qS0; have cS0_0 := qS0.cell 0; have cS0_1 := qS0.cell 1; have cS0_2 := qS0.cell 2; have cS0_3 := qS0.cell 3; have cS0_4 := qS0.cell 4; first | (go_simp; done) | (go_simp; with_reducible rfl) | (with_reducible rfl))
  (try simp only [pt_])
  refine tk (i := 15) (oi := ⟨some 35, _, _, _, _, _⟩) (v := ?v15_46) hHeld rfl ?y15_46 ?r15_46
  case y15_46 => (intro w _; first | (go_simp; done) | (go_simp; with_reducible rfl) | (with_reducible rfl))
  (try simp only [pt_])
  refine tk (i := 16) (oi := ⟨some 36, _, _, _, _, _⟩) (v := ?v16_47) hHeld rfl ?y16_47 ?r16_47
  case y16_47 => (intro w _; first | (go_simp; done) | (go_simp; with_reducible rfl) | (with_reducible rfl))
  (try simp only [pt_])
  refine tk (i := 17) (oi := ⟨some 37, _, _, _, _, _⟩) (v := ?v17_48) hHeld rfl ?y17_48 ?r17_48
  case y17_48 => (intro w _; first | (go_simp; done) | (go_simp; with_reducible rfl) | (with_reducible rfl))
  (try simp only [pt_])
  refine wpAnyH_ready (rs := [2]) (by kernel_rfl) (by simp) ?_
  refine AllReadyH.cons (o := { dst := some 22, op := _, type := _, pos := _, after := _, guard := _ }) rfl (fun K hK => ?_) ?_
  go_simp
  refine (pick_any w0.heap.size _ 2 _ (Cur.drew C_w4') (by omega)).mono ?_
  rintro e wa ⟨pa, k2, rfl, pa0, pa1, pa2, q2, c2, o2⟩
  have bx2 := (Blk.drew B_x).only o2 (by simp; omega)
  have br2 := (Blk.drew B_r).only o2 (by simp; omega)
  have og2 := og.drew.cur o2 (by omega)
  have oo2 := oo.drew.cur o2 (by omega)
  have v2 := (V_w4'.drew).trans (o2.below1 (Nat.le_refl _) (V_w4'.drew).size)
  clear o2
  clear pa1
  refine hK.out _ _ ?_ (fun hHeld => ?_)
  · exact bx2
  clear hK K
  (try simp only [pt_])
  refine wpAnyH_ready (rs := [4]) (by kernel_rfl) (by simp) ?_
  refine AllReadyH.cons (o := { dst := some 24, op := _, type := _, pos := _, after := _, guard := _ }) rfl (fun K hK => ?_) ?_
  go_simp
  refine (pick_any w0.heap.size _ 24 _ c2 (by omega)).mono ?_
  rintro e wb ⟨pb, k4, rfl, pb0, pb1, pb2, q4, c4, o4⟩
  have bx4 := bx2.only o4 (by simp; omega)
  have br4 := br2.only o4 (by simp; omega)
  have og4 := og2.cur o4 (by omega)
  have oo4 := oo2.cur o4 (by omega)
  have v4 := v2.trans (o4.below1 (Nat.le_refl _) v2.size)
  clear o4
  clear pb1
  have td : pb.tdiv 23 = pb / 23 := Int.tdiv_eq_ediv_of_nonneg pb0
  have tq : IntKind.i64.wrap (pb / 23) = pb / 23 := IntWalk.i64_in _ (by omega)
  have tr : IntKind.i64.wrap (pa + pb / 23) = pa + pb / 23 := IntWalk.i64_in _ (by omega)
  refine hK.out _ _ ?_ (fun hHeld => ?_)
  · exact bx4
  clear hK K
  (try simp only [pt_])
  refine tk (i := 5) (oi := ⟨some 25, _, _, _, _, _⟩) (v := ?v5_49) hHeld rfl ?y5_49 ?r5_49
  case y5_49 => (intro w _; first | (go_simp; done) | (go_simp; with_reducible rfl) | (with_reducible rfl))
  (try simp only [pt_])
  refine tk (i := 6) (oi := ⟨some 26, _, _, _, _, _⟩) (v := ?v6_50) hHeld rfl ?y6_50 ?r6_50
  case y6_50 => (intro w _; first | (go_simp; done) | (go_simp; with_reducible rfl) | (with_reducible rfl))
  (try simp only [pt_])
  refine wpAnyH_ready (rs := [18]) (by kernel_rfl) (by simp) ?_
  refine AllReadyH.cons (o := { dst := some 38, op := _, type := _, pos := _, after := _, guard := _ }) rfl (fun K hK => ?_) ?_
  go_simp
  refine (l1Most_same _ _ _).mono ?_
  rintro e wl ⟨rfl, rfl⟩
  refine hK.out _ _ ?_ (fun hHeld => ?_)
  · exact bx4
  clear hK K
  (try simp only [pt_])
  refine wpAnyH_ready (rs := [19]) (by kernel_rfl) (by simp) ?_
  refine AllReadyH.cons (o := { dst := some 39, op := _, type := _, pos := _, after := _, guard := _ }) rfl (fun K hK => ?_) ?_
  go_simp
  refine (l1Least_same _ _ _).mono ?_
  rintro e wl ⟨rfl, rfl⟩
  refine hK.out _ _ ?_ (fun hHeld => ?_)
  · exact bx4
  clear hK K
  (try simp only [pt_])
  refine wpAnyH_ready (rs := [20]) (by kernel_rfl) (by simp) ?_
  refine AllReadyH.cons (o := { dst := some 40, op := _, type := _, pos := _, after := _, guard := _ }) rfl (fun K hK => ?_) ?_
  go_simp
  refine (elements_any w0.heap.size _ P _ _ c4 (by omega) (by omega) (by omega)).mono ?_
  rintro e we ⟨sa, sn, sc, S, k20, rfl, hm, os, lr, q20, c20, o20⟩
  have bx20 := bx4.only o20 (by simp; omega)
  have br20 := br4.only o20 (by simp; omega)
  have og20 := og4.cur o20 (by omega)
  have oo20 := oo4.cur o20 (by omega)
  have v20 := v4.trans (o20.below1 (Nat.le_refl _) v4.size)
  clear o20
  clear hm lr
  refine hK.out _ _ ?_ (fun hHeld => ?_)
  · exact bx20
  clear hK K
  (try simp only [pt_])
  refine wpAnyH_ready (rs := [21]) (by kernel_rfl) (by simp) ?_
  refine AllReadyH.cons (o := { dst := none, op := _, type := _, pos := _, after := _, guard := _ }) rfl (fun K hK => ?_) ?_
  have Z : Only [w.heap.size] we (((((we.setCell ⟨w.heap.size, 0, none⟩ (.int .i64 P)).setCell ⟨w.heap.size, 1, none⟩ (.int .i64 i0)).setCell ⟨w.heap.size, 2, none⟩ (.int .i64 i1)).setCell ⟨w.heap.size, 3, none⟩ (.slice ga gn gc)).setCell ⟨w.heap.size, 4, none⟩ (.slice oa on oc)) := ((((((Only.refl _ _).setCell _ _ (by simp)).setCell _ _ (by simp)).setCell _ _ (by simp)).setCell _ _ (by simp)).setCell _ _ (by simp))
  have KZ := bx20.only Z (by simp; omega)
  have RZ : Blk (((((we.setCell ⟨w.heap.size, 0, none⟩ (.int .i64 P)).setCell ⟨w.heap.size, 1, none⟩ (.int .i64 i0)).setCell ⟨w.heap.size, 2, none⟩ (.int .i64 i1)).setCell ⟨w.heap.size, 3, none⟩ (.slice ga gn gc)).setCell ⟨w.heap.size, 4, none⟩ (.slice oa on oc)) w.heap.size 41 #[.int .i64 P, .int .i64 i0, .int .i64 i1, .slice ga gn gc, .slice oa on oc] := (((((br20.set_ 0 (.int .i64 P)).set_ 1 (.int .i64 i0)).set_ 2 (.int .i64 i1)).set_ 3 (.slice ga gn gc)).set_ 4 (.slice oa on oc))
  have GZ := og20.only Z (fun q hq hq' => by have := (og20.feet q hq).1; simp at hq'; omega)
  have OZ := oo20.only Z (fun q hq hq' => by have := (oo20.feet q hq).1; simp at hq'; omega)
  have SZ := os.only Z (fun q hq hq' => by have := (os.feet q hq).1; have := v4.size; simp at hq'; omega)
  have VZ : Below w.heap.size w (((((we.setCell ⟨w.heap.size, 0, none⟩ (.int .i64 P)).setCell ⟨w.heap.size, 1, none⟩ (.int .i64 i0)).setCell ⟨w.heap.size, 2, none⟩ (.int .i64 i1)).setCell ⟨w.heap.size, 3, none⟩ (.slice ga gn gc)).setCell ⟨w.heap.size, 4, none⟩ (.slice oa on oc)) := ((((((V0.trans (v20.mono V0.size)).setCell (Nat.le_refl _) _).setCell (Nat.le_refl _) _).setCell (Nat.le_refl _) _).setCell (Nat.le_refl _) _).setCell (Nat.le_refl _) _)
  have HALL := Lib.hid (And.intro RZ (And.intro GZ (And.intro OZ (And.intro SZ VZ))))
  clear RZ GZ OZ SZ VZ Z
  have y0 := br20.cell 0
  have y1 := br20.cell 1
  have y2 := br20.cell 2
  have y3 := br20.cell 3
  have y4 := br20.cell 4
  have z0 := br20.frozen 0
  have z1 := br20.frozen 1
  have z2 := br20.frozen 2
  have z3 := br20.frozen 3
  have z4 := br20.frozen 4
  go_simp
  clear y0 z0 y1 z1 y2 z2 y3 z3 y4 z4
  refine hK.out _ _ ?_ (fun hHeld => ?_)
  · exact KZ
  clear hK K
  (try simp only [pt_])
  refine tk (i := 22) (oi := ⟨some 3, _, _, _, _, _⟩) (v := ?v22_51) hHeld rfl ?y22_51 ?r22_51
  case y22_51 => (intro w _; first | (go_simp; done) | (go_simp; with_reducible rfl) | (with_reducible rfl))
  (try simp only [pt_])
  refine tk (i := 23) (oi := ⟨some 4, _, _, _, _, _⟩) (v := ?v23_52) hHeld rfl ?y23_52 ?r23_52
  case y23_52 => (intro w _; first | (go_simp; done) | (go_simp; with_reducible rfl) | (with_reducible rfl))
  (try simp only [pt_])
  refine tk (i := 24) (oi := ⟨some 5, _, _, _, _, _⟩) (v := ?v24_53) hHeld rfl ?y24_53 ?r24_53
  case y24_53 => (intro w _; first | (go_simp; done) | (go_simp; with_reducible rfl) | (with_reducible rfl))
  (try simp only [pt_])
  refine wpAnyH_done (by kernel_rfl) ?_ _
  refine NoPanic.normal ?_
  rotate_left 1
  exact AllReadyH.nil
  exact AllReadyH.nil
  exact AllReadyH.nil
  exact AllReadyH.nil
  exact AllReadyH.nil
  exact AllReadyH.nil
  obtain ⟨RZ, GZ, OZ, SZ, VZ⟩ := HALL.out
  clear HALL KZ
  generalize (((((we.setCell ⟨w.heap.size, 0, none⟩ (.int .i64 P)).setCell ⟨w.heap.size, 1, none⟩ (.int .i64 i0)).setCell ⟨w.heap.size, 2, none⟩ (.int .i64 i1)).setCell ⟨w.heap.size, 3, none⟩ (.slice ga gn gc)).setCell ⟨w.heap.size, 4, none⟩ (.slice oa on oc)) = wz at *
  have e_r_0 := RZ.cell 0
  have e_r_1 := RZ.cell 1
  have e_r_2 := RZ.cell 2
  have e_r_3 := RZ.cell 3
  have e_r_4 := RZ.cell 4
  go_wp2
  exact bodyPost_ret (v := .tuple #[.agg #[.int .i64 P, .int .i64 i0, .int .i64 i1, .slice ga gn gc, .slice oa on oc], .int .i64 (pa + pb / 23), .int .i64 kk, .slice sa sn sc]) (by simp [results, Try.results17, go_sem, e_r_0, e_r_1, e_r_2, e_r_3, e_r_4]) rfl ⟨_, _, _, _, _, _, _, _, _, _, _, _, _, _, _, _, _, rfl, GZ.flat, OZ.ints, SZ.ints, VZ⟩
end Go.Proofs.Ythpcmbdkboajcaa
