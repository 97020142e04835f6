/- Draws of circuits over a field with inputs and a key. -/
import Derived.Test.YthpcmbdkboajcaaDrawL
import Derived.Test.YthpcmbdkboajcaaDrawS
namespace Go.Proofs.Ythpcmbdkboajcaa
open Go.RowKit
/-- A drawn circuit with a key and inputs, valid or not. -/
def ShQ (w : World) (g k : Nat) (e : Ending) (w' : World) : Prop := ∃ (P i0 i1 : Int) (ga : Option Addr) (gn gc : Nat) (G : List Int) (oa : Option Addr) (on oc : Nat) (O : List Int) (key : Int) (aa : Option Addr) (an ac : Nat) (A : List Int) (ba : Option Addr) (bn bc : Nat) (B : List Int) (k' : Nat),
  e = .returned (.tuple #[.agg #[.int .i64 P, .int .i64 i0, .int .i64 i1, .slice ga gn gc, .slice oa on oc], .int .i64 key, .slice aa an ac, .slice ba bn bc]) ∧ (-300 ≤ P ∧ P ≤ 300) ∧ gn ≤ 200 ∧
  OwnF 3 eGate w' w.heap.size ga gn gc G ∧ Own w' w.heap.size oa on oc O ∧ Own w' w.heap.size aa an ac A ∧ Own w' w.heap.size ba bn bc B ∧ k' ≤ k + 2200 ∧ Cur w' g k' ∧ Only [g] w w'
def IsQ (w : World) (e : Ending) (w' : World) : Prop := ∃ (P i0 i1 : Int) (ga : Option Addr) (gn gc : Nat) (G : List Int) (oa : Option Addr) (on oc : Nat) (O : List Int) (key : Int) (aa : Option Addr) (an ac : Nat) (A : List Int) (ba : Option Addr) (bn bc : Nat) (B : List Int),
  e = .returned (.tuple #[.agg #[.int .i64 P, .int .i64 i0, .int .i64 i1, .slice ga gn gc, .slice oa on oc], .int .i64 key, .slice aa an ac, .slice ba bn bc]) ∧
  OwnF 3 eGate w' w.heap.size ga gn gc G ∧ Own w' w.heap.size oa on oc O ∧ Own w' w.heap.size aa an ac A ∧ Own w' w.heap.size ba bn bc B ∧ Below w.heap.size w w'
def FaQ (w : World) (e : Ending) (w' : World) : Prop := ∃ (P i0 i1 : Int) (ga : Option Addr) (gn gc : Nat) (G : List Int) (oa : Option Addr) (on oc : Nat) (O : List Int) (key : Int) (aa : Option Addr) (an ac : Nat) (A : List Int) (ba : Option Addr) (bn bc : Nat) (B : List Int) (pt ch : Int),
  e = .returned (.tuple #[.agg #[.int .i64 P, .int .i64 i0, .int .i64 i1, .slice ga gn gc, .slice oa on oc], .int .i64 key, .slice aa an ac, .slice ba bn bc, .int .i64 pt, .int .i64 ch]) ∧
  OwnF 3 eGate w' w.heap.size ga gn gc G ∧ Own w' w.heap.size oa on oc O ∧ Own w' w.heap.size aa an ac A ∧ Own w' w.heap.size ba bn bc B ∧ Below w.heap.size w w'
set_option maxHeartbeats 16000000 in
set_option maxRecDepth 100000 in
theorem shared_any (g k : Nat) (w : World) (h : Cur w g k) (hk : k ≤ 500000000000000) :
    Calls Try.prog 82 #[.pointer (some ⟨g, 0, none⟩)] w (ShQ w g k) := by
  have hg := h.lt


  go_enter Try.func82, Try.ntmps82
  go_upto_region 1 with fail
  refine Exists.elim (Blk.new_ w (b := w.heap.size) rfl 41 #[.int .i64 0, .int .i64 0, .int .i64 0, .slice none 0 0, .slice none 0 0]) (fun w1' q => ?_)
  rw [q.1]; have B_r := q.2.1; have s_w1' := q.2.2.1; have u_w1' := q.2.2.2; clear q
  have C_w1' := h.below u_w1'
  have S_w1' : w.heap.size + 1 ≤ w1'.heap.size := Nat.le_of_eq s_w1'.symm
  have V_w1' := (Only.refl [g] w).trans (Only.of_below u_w1')
  clear u_w1' s_w1'
  go_wp2_with fail
  refine (anyArith_any g _ _ C_w1' (by omega)).mono ?_
  rintro e w2' ⟨P, i0, i1, ga, gn, gc, G, oa, on, oc, O, k_w2', rfl, hP, hi0, hi1, hgn, hon, og, oo, q_w2', C_w2', o_w2'⟩
  have V_w2' := V_w1'.trans o_w2'
  replace B_r := B_r.only o_w2' (by simp; omega)
  have S_w2' := o_w2'.size
  clear o_w2' V_w1'
  replace og := og.lower (show w.heap.size + 1 ≤ _ by omega)
  replace oo := oo.lower (show w.heap.size + 1 ≤ _ by omega)

  go_upto_region 2 with fail
  have Q_og := Lib.hid og.feet
  have Q_oo := Lib.hid oo.feet
  refine Exists.elim (Blk.new_ w2' (b := w2'.heap.size) rfl 41 #[.int .i64 P, .int .i64 i0, .int .i64 i1, .slice ga gn gc, .slice oa on oc]) (fun w3' q => ?_)
  rw [q.1]; have B_x := q.2.1; have s_w3' := q.2.2.1; have u_w3' := q.2.2.2; clear q
  replace B_r := B_r.below u_w3'
  replace og := og.below u_w3'
  replace oo := oo.below u_w3'
  have C_w3' := C_w2'.below u_w3'
  have S_w3' : w2'.heap.size + 1 ≤ w3'.heap.size := Nat.le_of_eq s_w3'.symm
  have V_w3' := V_w2'.trans (Only.of_below u_w3')
  clear u_w3' s_w3' V_w2'
  have hbx : w.heap.size < w2'.heap.size := by omega
  generalize w2'.heap.size = bx at *
  have hgx : g < bx := by omega



  obtain ⟨hi0a, hi0b⟩ := hi0
  obtain ⟨hi1a, hi1b⟩ := hi1
  have hsz := B_x.lt
  refine wp_region_noPanic ?_
  refine wp_region_held_drew (S := (fun W => Blk W (bx) 41 #[.int .i64 P, .int .i64 i0, .int .i64 i1, .slice ga gn gc, .slice oa on oc])) (by kernel_rfl) ?hS1 (fun hHeld => ?go1)
  case hS1 => exact B_x.drew
  refine tk (i := 0) (oi := ⟨some 11, _, _, _, _, _⟩) (v := ?v0_2) hHeld rfl ?y0_2 ?r0_2
  case y0_2 => (intro w _; first | (go_simp; done) | (go_simp; with_reducible rfl) | (with_reducible rfl))
  (try simp only [pt_])
  refine tk (i := 1) (oi := ⟨some 12, _, _, _, _, _⟩) (v := ?v1_3) hHeld rfl ?y1_3 ?r1_3
  case y1_3 => (intro w _; first | (go_simp; done) | (go_simp; with_reducible rfl) | (with_reducible rfl))
  (try simp only [pt_])
  refine tk (i := 2) (oi := ⟨some 13, _, _, _, _, _⟩) (v := ?v2_4) hHeld rfl ?y2_4 ?r2_4
  case y2_4 => (intro w qS0; have cS0_0 := qS0.cell 0; have cS0_1 := qS0.cell 1; have cS0_2 := qS0.cell 2; have cS0_3 := qS0.cell 3; have cS0_4 := qS0.cell 4; first | (go_simp; done) | (go_simp; with_reducible rfl) | (with_reducible rfl))
  (try simp only [pt_])
  refine tk (i := 3) (oi := ⟨some 14, _, _, _, _, _⟩) (v := ?v3_5) hHeld rfl ?y3_5 ?r3_5
  case y3_5 => (intro w _; first | (go_simp; done) | (go_simp; with_reducible rfl) | (with_reducible rfl))
  (try simp only [pt_])
  refine tk (i := 4) (oi := ⟨some 15, _, _, _, _, _⟩) (v := ?v4_6) hHeld rfl ?y4_6 ?r4_6
  case y4_6 => (intro w qS0; have cS0_0 := qS0.cell 0; have cS0_1 := qS0.cell 1; have cS0_2 := qS0.cell 2; have cS0_3 := qS0.cell 3; have cS0_4 := qS0.cell 4; first | (go_simp; done) | (go_simp; with_reducible rfl) | (with_reducible rfl))
  (try simp only [pt_])
  refine tk (i := 8) (oi := ⟨some 19, _, _, _, _, _⟩) (v := ?v8_7) hHeld rfl ?y8_7 ?r8_7
  case y8_7 => (intro w _; first | (go_simp; done) | (go_simp; with_reducible rfl) | (with_reducible rfl))
  (try simp only [pt_])
  refine tk (i := 9) (oi := ⟨some 20, _, _, _, _, _⟩) (v := ?v9_8) hHeld rfl ?y9_8 ?r9_8
  case y9_8 => (intro w _; first | (go_simp; done) | (go_simp; with_reducible rfl) | (with_reducible rfl))
  (try simp only [pt_])
  refine tk (i := 10) (oi := ⟨some 21, _, _, _, _, _⟩) (v := ?v10_9) hHeld rfl ?y10_9 ?r10_9
  case y10_9 => (intro w qS0; have cS0_0 := qS0.cell 0; have cS0_1 := qS0.cell 1; have cS0_2 := qS0.cell 2; have cS0_3 := qS0.cell 3; have cS0_4 := qS0.cell 4; first | (go_simp; done) | (go_simp; with_reducible rfl) | (with_reducible rfl))
  (try simp only [pt_])
  refine tk (i := 11) (oi := ⟨some 22, _, _, _, _, _⟩) (v := ?v11_10) hHeld rfl ?y11_10 ?r11_10
  case y11_10 => (intro w _; first | (go_simp; done) | (go_simp; with_reducible rfl) | (with_reducible rfl))
  (try simp only [pt_])
  refine tk (i := 12) (oi := ⟨some 23, _, _, _, _, _⟩) (v := ?v12_11) hHeld rfl ?y12_11 ?r12_11
  case y12_11 => (intro w qS0; have cS0_0 := qS0.cell 0; have cS0_1 := qS0.cell 1; have cS0_2 := qS0.cell 2; have cS0_3 := qS0.cell 3; have cS0_4 := qS0.cell 4; first | (go_simp; done) | (go_simp; with_reducible rfl) | (with_reducible rfl))
  (try simp only [pt_])
  refine wpAnyH_ready (rs := [5]) (by kernel_rfl) (by simp) ?_
  refine AllReadyH.cons (o := { dst := some 16, op := _, type := _, pos := _, after := _, guard := _ }) rfl (fun K hK => ?_) ?_
  go_simp
  refine (l1Most_same _ _ _).mono ?_
  rintro e wl ⟨rfl, rfl⟩
  refine hK.out _ _ ?_ (fun hHeld => ?_)
  · exact B_x.drew
  clear hK K
  (try simp only [pt_])
  refine wpAnyH_ready (rs := [6]) (by kernel_rfl) (by simp) ?_
  refine AllReadyH.cons (o := { dst := some 17, op := _, type := _, pos := _, after := _, guard := _ }) rfl (fun K hK => ?_) ?_
  go_simp
  refine (l1Least_same _ _ _).mono ?_
  rintro e wl ⟨rfl, rfl⟩
  refine hK.out _ _ ?_ (fun hHeld => ?_)
  · exact B_x.drew
  clear hK K
  (try simp only [pt_])
  refine wpAnyH_ready (rs := [7]) (by kernel_rfl) (by simp) ?_
  refine AllReadyH.cons (o := { dst := some 18, op := _, type := _, pos := _, after := _, guard := _ }) rfl (fun K hK => ?_) ?_
  go_simp
  refine (elements_any g _ P _ _ (Cur.drew C_w3') (by omega) (by omega) (by omega)).mono ?_
  rintro e wa ⟨aa, an, ac, A, k7, rfl, hm, oA7, lr, q7, c7, o7⟩
  have bx7 := (Blk.drew B_x).only o7 (by simp; omega)
  have br7 := (Blk.drew B_r).only o7 (by simp; omega)
  have og7 := og.drew.cur o7 (by omega)
  have oo7 := oo.drew.cur o7 (by omega)
  have v7 := (V_w3'.trans (Only.of_below ((Below.refl _ _).drew))).trans o7
  have s7 := o7.size
  clear o7
  have han : an ≤ 9 := by omega
  have hsA : bx < w3'.drew.heap.size := by simp; omega
  have Q_A := Lib.hid oA7.feet
  have F_A := Lib.hid (fun q (hq : q ∈ foot aa ac) => (oA7.feet q hq).2)
  clear hm lr
  refine hK.out _ _ ?_ (fun hHeld => ?_)
  · exact bx7
  clear hK K
  (try simp only [pt_])
  refine wpAnyH_ready (rs := [13]) (by kernel_rfl) (by simp) ?_
  refine AllReadyH.cons (o := { dst := some 24, op := _, type := _, pos := _, after := _, guard := _ }) rfl (fun K hK => ?_) ?_
  go_simp
  refine (l1Most_same _ _ _).mono ?_
  rintro e wl ⟨rfl, rfl⟩
  refine hK.out _ _ ?_ (fun hHeld => ?_)
  · exact bx7
  clear hK K
  (try simp only [pt_])
  refine wpAnyH_ready (rs := [14]) (by kernel_rfl) (by simp) ?_
  refine AllReadyH.cons (o := { dst := some 25, op := _, type := _, pos := _, after := _, guard := _ }) rfl (fun K hK => ?_) ?_
  go_simp
  refine (l1Least_same _ _ _).mono ?_
  rintro e wl ⟨rfl, rfl⟩
  refine hK.out _ _ ?_ (fun hHeld => ?_)
  · exact bx7
  clear hK K
  (try simp only [pt_])
  refine wpAnyH_ready (rs := [15]) (by kernel_rfl) (by simp) ?_
  refine AllReadyH.cons (o := { dst := some 26, op := _, type := _, pos := _, after := _, guard := _ }) rfl (fun K hK => ?_) ?_
  go_simp
  refine (elements_any g _ P _ _ c7 (by omega) (by omega) (by omega)).mono ?_
  rintro e wb ⟨ba, bn, bc, B, k15, rfl, hm, oB15, lr, q15, c15, o15⟩
  have bx15 := bx7.only o15 (by simp; omega)
  have br15 := br7.only o15 (by simp; omega)
  have og15 := og7.cur o15 (by omega)
  have oo15 := oo7.cur o15 (by omega)
  have oA15 := oA7.cur o15 (by omega)
  have v15 := v7.trans o15
  have s15 := o15.size
  clear o15
  have hbn : bn ≤ 9 := by omega
  clear hm lr
  refine hK.out _ _ ?_ (fun hHeld => ?_)
  · exact bx15
  clear hK K
  (try simp only [pt_])
  refine tk (i := 16) (oi := ⟨some 7, _, _, _, _, _⟩) (v := ?v16_12) hHeld rfl ?y16_12 ?r16_12
  case y16_12 => (intro w _; first | (go_simp; done) | (go_simp; with_reducible rfl) | (with_reducible rfl))
  (try simp only [pt_])
  refine tk (i := 17) (oi := ⟨some 8, _, _, _, _, _⟩) (v := ?v17_13) hHeld rfl ?y17_13 ?r17_13
  case y17_13 => (intro w _; first | (go_simp; done) | (go_simp; with_reducible rfl) | (with_reducible rfl))
  (try simp only [pt_])
  refine wpAnyH_done (by kernel_rfl) ?_ _
  refine NoPanic.normal ?_
  rotate_left 1
  exact AllReadyH.nil
  exact AllReadyH.nil
  exact AllReadyH.nil
  exact AllReadyH.nil
  exact AllReadyH.nil
  exact AllReadyH.nil
  have oA := oA15
  have oB := oB15
  have oG := og15
  have oO := oo15
  clear og oo oA15 oB15 og15 oo15 oA7 og7 oo7 bx7 br7 c7 v7
  replace B_x := bx15
  replace B_r := br15
  have og := oG
  have oo := oO
  clear oG oO bx15 br15





  go_wp2_with fail
  refine (one_any g _ _ _ c15 (by omega)).mono ?_
  rintro e w4' ⟨b, k_w4', rfl, q_w4', C_w4', o_w4'⟩
  have V_w4' := v15.trans o_w4'
  replace og := og.cur o_w4' (by omega)
  replace oo := oo.cur o_w4' (by omega)
  replace oA := oA.cur o_w4' (by omega)
  replace oB := oB.cur o_w4' (by omega)
  replace B_r := B_r.only o_w4' (by simp; omega)
  replace B_x := B_x.only o_w4' (by simp; omega)
  have S_w4' := o_w4'.size
  clear o_w4' v15
  cases b

  · skip
    go_upto_region 5 with fail
    refine wp_region_noPanic ?_
    refine wp_region_held_drew (S := (fun W => Blk W (bx) 41 #[.int .i64 P, .int .i64 i0, .int .i64 i1, .slice ga gn gc, .slice oa on oc])) (by kernel_rfl) ?hS14 (fun hHeld => ?go14)
    case hS14 => exact B_x.drew
    refine tk (i := 0) (oi := ⟨some 32, _, _, _, _, _⟩) (v := ?v0_15) hHeld rfl ?y0_15 ?r0_15
    case y0_15 => (intro w qS0; have cS0_0 := qS0.cell 0; have cS0_1 := qS0.cell 1; have cS0_2 := qS0.cell 2; have cS0_3 := qS0.cell 3; have cS0_4 := qS0.cell 4; first | (go_simp; done) | (go_simp; with_reducible rfl) | (with_reducible rfl))
    (try simp only [pt_])
    refine tk (i := 1) (oi := ⟨some 33, _, _, _, _, _⟩) (v := ?v1_16) hHeld rfl ?y1_16 ?r1_16
    case y1_16 => (intro w _; first | (go_simp; done) | (go_simp; with_reducible rfl) | (with_reducible rfl))
    (try simp only [pt_])
    refine tk (i := 3) (oi := ⟨some 35, _, _, _, _, _⟩) (v := ?v3_17) hHeld rfl ?y3_17 ?r3_17
    case y3_17 => (intro w _; first | (go_simp; done) | (go_simp; with_reducible rfl) | (with_reducible rfl))
    (try simp only [pt_])
    refine tk (i := 4) (oi := ⟨some 36, _, _, _, _, _⟩) (v := ?v4_18) hHeld rfl ?y4_18 ?r4_18
    case y4_18 => (intro w _; first | (go_simp; done) | (go_simp; with_reducible rfl) | (with_reducible rfl))
    (try simp only [pt_])
    refine wpAnyH_ready (rs := [2]) (by kernel_rfl) (by simp) ?_
    refine AllReadyH.cons (o := { dst := some 34, op := _, type := _, pos := _, after := _, guard := _ }) rfl (fun K hK => ?_) ?_
    go_simp
    refine (secret_any g _ _ (Cur.drew C_w4') (by omega)).mono ?_
    rintro e ws ⟨key, k2, rfl, key0, key1, q2, c2, o2⟩
    have bx2 := (Blk.drew B_x).only o2 (by simp; omega)
    have br2 := (Blk.drew B_r).only o2 (by simp; omega)
    have og2 := og.drew.cur o2 (by omega)
    have oo2 := oo.drew.cur o2 (by omega)
    have oA2 := oA.drew.cur o2 (by omega)
    have oB2 := oB.drew.cur o2 (by omega)
    have v2 := (V_w4'.trans (Only.of_below ((Below.refl _ _).drew))).trans o2
    have s2 := o2.size
    clear o2
    refine hK.out _ _ ?_ (fun hHeld => ?_)
    · exact bx2
    clear hK K
    (try simp only [pt_])
    refine wpAnyH_ready (rs := [5]) (by kernel_rfl) (by simp) ?_
    refine AllReadyH.cons (o := { dst := none, op := _, type := _, pos := _, after := _, guard := _ }) rfl (fun K hK => ?_) ?_
    have Z : Only [w.heap.size] ws (((((ws.setCell ⟨w.heap.size, 0, none⟩ (.int .i64 P)).setCell ⟨w.heap.size, 1, none⟩ (.int .i64 i0)).setCell ⟨w.heap.size, 2, none⟩ (.int .i64 i1)).setCell ⟨w.heap.size, 3, none⟩ (.slice ga gn gc)).setCell ⟨w.heap.size, 4, none⟩ (.slice oa on oc)) := ((((((Only.refl _ _).setCell _ _ (by simp)).setCell _ _ (by simp)).setCell _ _ (by simp)).setCell _ _ (by simp)).setCell _ _ (by simp))
    have KZ := bx2.only Z (by simp; omega)
    have RZ : Blk (((((ws.setCell ⟨w.heap.size, 0, none⟩ (.int .i64 P)).setCell ⟨w.heap.size, 1, none⟩ (.int .i64 i0)).setCell ⟨w.heap.size, 2, none⟩ (.int .i64 i1)).setCell ⟨w.heap.size, 3, none⟩ (.slice ga gn gc)).setCell ⟨w.heap.size, 4, none⟩ (.slice oa on oc)) w.heap.size 41 #[.int .i64 P, .int .i64 i0, .int .i64 i1, .slice ga gn gc, .slice oa on oc] := (((((br2.set_ 0 (.int .i64 P)).set_ 1 (.int .i64 i0)).set_ 2 (.int .i64 i1)).set_ 3 (.slice ga gn gc)).set_ 4 (.slice oa on oc))
    have Z_og := og2.only Z (fun q hq hq' => by have := (og2.feet q hq).1; simp at hq'; omega)
    have Z_oo := oo2.only Z (fun q hq hq' => by have := (oo2.feet q hq).1; simp at hq'; omega)
    have Z_oA := oA2.only Z (fun q hq hq' => by have := (oA2.feet q hq).1; simp at hq'; omega)
    have Z_oB := oB2.only Z (fun q hq hq' => by have := (oB2.feet q hq).1; simp at hq'; omega)
    have CZ := c2.only Z (fun q hq => by simp at hq; omega)
    have VZ := v2.thn Z (fun q hq => Or.inl (by simp at hq; omega))
    have HALL := Lib.hid (And.intro RZ (And.intro Z_og (And.intro Z_oo (And.intro Z_oA (And.intro Z_oB (And.intro CZ VZ))))))
    clear RZ Z_og Z_oo Z_oA Z_oB CZ VZ Z
    have y0 := br2.cell 0
    have y1 := br2.cell 1
    have y2 := br2.cell 2
    have y3 := br2.cell 3
    have y4 := br2.cell 4
    have z0 := br2.frozen 0
    have z1 := br2.frozen 1
    have z2 := br2.frozen 2
    have z3 := br2.frozen 3
    have z4 := br2.frozen 4
    go_simp
    clear y0 z0 y1 z1 y2 z2 y3 z3 y4 z4
    refine hK.out _ _ ?_ (fun hHeld => ?_)
    · exact KZ
    clear hK K
    (try simp only [pt_])
    refine tk (i := 6) (oi := ⟨some 3, _, _, _, _, _⟩) (v := ?v6_19) hHeld rfl ?y6_19 ?r6_19
    case y6_19 => (intro w _; first | (go_simp; done) | (go_simp; with_reducible rfl) | (with_reducible rfl))
    (try simp only [pt_])
    refine tk (i := 7) (oi := ⟨some 4, _, _, _, _, _⟩) (v := ?v7_20) hHeld rfl ?y7_20 ?r7_20
    case y7_20 => (intro w _; first | (go_simp; done) | (go_simp; with_reducible rfl) | (with_reducible rfl))
    (try simp only [pt_])
    refine tk (i := 8) (oi := ⟨some 5, _, _, _, _, _⟩) (v := ?v8_21) hHeld rfl ?y8_21 ?r8_21
    case y8_21 => (intro w _; first | (go_simp; done) | (go_simp; with_reducible rfl) | (with_reducible rfl))
    (try simp only [pt_])
    refine wpAnyH_done (by kernel_rfl) ?_ _
    refine NoPanic.normal ?_
    rotate_left 1
    exact AllReadyH.nil
    exact AllReadyH.nil
    obtain ⟨RZ, Z_og, Z_oo, Z_oA, Z_oB, CZ, VZ⟩ := HALL.out
    clear HALL KZ
    generalize (((((ws.setCell ⟨w.heap.size, 0, none⟩ (.int .i64 P)).setCell ⟨w.heap.size, 1, none⟩ (.int .i64 i0)).setCell ⟨w.heap.size, 2, none⟩ (.int .i64 i1)).setCell ⟨w.heap.size, 3, none⟩ (.slice ga gn gc)).setCell ⟨w.heap.size, 4, none⟩ (.slice oa on oc)) = wz at *
    have e_r_0 := RZ.cell 0
    have e_r_1 := RZ.cell 1
    have e_r_2 := RZ.cell 2
    have e_r_3 := RZ.cell 3
    have e_r_4 := RZ.cell 4
    go_wp2
    exact bodyPost_ret (v := .tuple #[.agg #[.int .i64 P, .int .i64 i0, .int .i64 i1, .slice ga gn gc, .slice oa on oc], .int .i64 key, .slice aa an ac, .slice ba bn bc]) (by simp [results, Try.results82, go_sem, e_r_0, e_r_1, e_r_2, e_r_3, e_r_4]) rfl ⟨_, _, _, _, _, _, _, _, _, _, _, _, _, _, _, _, _, _, _, _, _, rfl, hP, hgn, Z_og.lower (by omega), Z_oo.lower (by omega), Z_oA.lower (by omega), Z_oB.lower (by omega), by omega, CZ, VZ⟩

  · skip
    replace oA : Own w4' (bx + 1) aa an ac A := oA.lower hsA
    go_wp2_with (at_builtin; refine wpList_appI _ rfl _ _ rfl (bx + 1) aa an ac A rfl (oA.alloc _) _ 1 1 [0] rfl (Ints.lit1 _ _ _) (by omega) (by simp; omega) ?_)
    intro a5 c5 w9 o5 u5 g5
    have L := (Below.refl w4'.heap.size w4').alloc (Nat.le_refl _) (.cells #[.int .i64 0] 3)
    have G3 : Only (foot aa ac) (w4'.alloc (.cells #[.int .i64 0] 3)) w9 := Only.of_grown g5
    have hf : ∀ q ∈ foot aa ac, bx + 1 ≤ q ∧ q < wl.heap.size := fun q hq => ⟨(oA.feet q hq).1, F_A.out q hq⟩
    have BX := (B_x.below L).only G3 (by intro hm; have := hf _ hm; omega)
    have BR := (B_r.below L).only G3 (by intro hm; have := hf _ hm; omega)
    have OG := (og.below L).only G3 (fun q hq hq' => by have := (Q_og.out q hq).2; have := hf q hq'; omega)
    have OO := (oo.below L).only G3 (fun q hq hq' => by have := (Q_oo.out q hq).2; have := hf q hq'; omega)
    have OB := (oB.below L).only G3 (fun q hq hq' => by have := (oB.feet q hq).1; have := hf q hq'; omega)
    have C3 := (C_w4'.below L).only G3 (fun q hq => by have := hf q hq; omega)
    have O3 : Only [g] w w9 := (V_w4'.trans (Only.of_below L)).thn G3 (fun q hq => Or.inl (by have := hf q hq; omega))
    clear u5 g5 G3 L hf B_x B_r og oo oA oB C_w4' V_w4'
    have B_x := BX
    have B_r := BR
    have og := OG
    have oo := OO
    have oA := o5
    have oB := OB
    clear BX BR OG OO o5 OB


    go_upto_region 5 with fail
    refine wp_region_noPanic ?_
    refine wp_region_held_drew (S := (fun W => Blk W (bx) 41 #[.int .i64 P, .int .i64 i0, .int .i64 i1, .slice ga gn gc, .slice oa on oc])) (by kernel_rfl) ?hS22 (fun hHeld => ?go22)
    case hS22 => exact B_x.drew
    refine tk (i := 0) (oi := ⟨some 32, _, _, _, _, _⟩) (v := ?v0_23) hHeld rfl ?y0_23 ?r0_23
    case y0_23 => (intro w qS0; have cS0_0 := qS0.cell 0; have cS0_1 := qS0.cell 1; have cS0_2 := qS0.cell 2; have cS0_3 := qS0.cell 3; have cS0_4 := qS0.cell 4; first | (go_simp; done) | (go_simp; with_reducible rfl) | (with_reducible rfl))
    (try simp only [pt_])
    refine tk (i := 1) (oi := ⟨some 33, _, _, _, _, _⟩) (v := ?v1_24) hHeld rfl ?y1_24 ?r1_24
    case y1_24 => (intro w _; first | (go_simp; done) | (go_simp; with_reducible rfl) | (with_reducible rfl))
    (try simp only [pt_])
    refine tk (i := 3) (oi := ⟨some 35, _, _, _, _, _⟩) (v := ?v3_25) hHeld rfl ?y3_25 ?r3_25
    case y3_25 => (intro w _; first | (go_simp; done) | (go_simp; with_reducible rfl) | (with_reducible rfl))
    (try simp only [pt_])
    refine tk (i := 4) (oi := ⟨some 36, _, _, _, _, _⟩) (v := ?v4_26) hHeld rfl ?y4_26 ?r4_26
    case y4_26 => (intro w _; first | (go_simp; done) | (go_simp; with_reducible rfl) | (with_reducible rfl))
    (try simp only [pt_])
    refine wpAnyH_ready (rs := [2]) (by kernel_rfl) (by simp) ?_
    refine AllReadyH.cons (o := { dst := some 34, op := _, type := _, pos := _, after := _, guard := _ }) rfl (fun K hK => ?_) ?_
    go_simp
    refine (secret_any g _ _ (Cur.drew C3) (by omega)).mono ?_
    rintro e ws ⟨key, k2, rfl, key0, key1, q2, c2, o2⟩
    have bx2 := (Blk.drew B_x).only o2 (by simp; omega)
    have br2 := (Blk.drew B_r).only o2 (by simp; omega)
    have og2 := og.drew.cur o2 (by omega)
    have oo2 := oo.drew.cur o2 (by omega)
    have oA2 := oA.drew.cur o2 (by omega)
    have oB2 := oB.drew.cur o2 (by omega)
    have v2 := (O3.trans (Only.of_below ((Below.refl _ _).drew))).trans o2
    have s2 := o2.size
    clear o2
    refine hK.out _ _ ?_ (fun hHeld => ?_)
    · exact bx2
    clear hK K
    (try simp only [pt_])
    refine wpAnyH_ready (rs := [5]) (by kernel_rfl) (by simp) ?_
    refine AllReadyH.cons (o := { dst := none, op := _, type := _, pos := _, after := _, guard := _ }) rfl (fun K hK => ?_) ?_
    have Z : Only [w.heap.size] ws (((((ws.setCell ⟨w.heap.size, 0, none⟩ (.int .i64 P)).setCell ⟨w.heap.size, 1, none⟩ (.int .i64 i0)).setCell ⟨w.heap.size, 2, none⟩ (.int .i64 i1)).setCell ⟨w.heap.size, 3, none⟩ (.slice ga gn gc)).setCell ⟨w.heap.size, 4, none⟩ (.slice oa on oc)) := ((((((Only.refl _ _).setCell _ _ (by simp)).setCell _ _ (by simp)).setCell _ _ (by simp)).setCell _ _ (by simp)).setCell _ _ (by simp))
    have KZ := bx2.only Z (by simp; omega)
    have RZ : Blk (((((ws.setCell ⟨w.heap.size, 0, none⟩ (.int .i64 P)).setCell ⟨w.heap.size, 1, none⟩ (.int .i64 i0)).setCell ⟨w.heap.size, 2, none⟩ (.int .i64 i1)).setCell ⟨w.heap.size, 3, none⟩ (.slice ga gn gc)).setCell ⟨w.heap.size, 4, none⟩ (.slice oa on oc)) w.heap.size 41 #[.int .i64 P, .int .i64 i0, .int .i64 i1, .slice ga gn gc, .slice oa on oc] := (((((br2.set_ 0 (.int .i64 P)).set_ 1 (.int .i64 i0)).set_ 2 (.int .i64 i1)).set_ 3 (.slice ga gn gc)).set_ 4 (.slice oa on oc))
    have Z_og := og2.only Z (fun q hq hq' => by have := (og2.feet q hq).1; simp at hq'; omega)
    have Z_oo := oo2.only Z (fun q hq hq' => by have := (oo2.feet q hq).1; simp at hq'; omega)
    have Z_oA := oA2.only Z (fun q hq hq' => by have := (oA2.feet q hq).1; simp at hq'; omega)
    have Z_oB := oB2.only Z (fun q hq hq' => by have := (oB2.feet q hq).1; simp at hq'; omega)
    have CZ := c2.only Z (fun q hq => by simp at hq; omega)
    have VZ := v2.thn Z (fun q hq => Or.inl (by simp at hq; omega))
    have HALL := Lib.hid (And.intro RZ (And.intro Z_og (And.intro Z_oo (And.intro Z_oA (And.intro Z_oB (And.intro CZ VZ))))))
    clear RZ Z_og Z_oo Z_oA Z_oB CZ VZ Z
    have y0 := br2.cell 0
    have y1 := br2.cell 1
    have y2 := br2.cell 2
    have y3 := br2.cell 3
    have y4 := br2.cell 4
    have z0 := br2.frozen 0
    have z1 := br2.frozen 1
    have z2 := br2.frozen 2
    have z3 := br2.frozen 3
    have z4 := br2.frozen 4
    go_simp
    clear y0 z0 y1 z1 y2 z2 y3 z3 y4 z4
    refine hK.out _ _ ?_ (fun hHeld => ?_)
    · exact KZ
    clear hK K
    (try simp only [pt_])
    refine tk (i := 6) (oi := ⟨some 3, _, _, _, _, _⟩) (v := ?v6_27) hHeld rfl ?y6_27 ?r6_27
    case y6_27 => (intro w _; first | (go_simp; done) | (go_simp; with_reducible rfl) | (with_reducible rfl))
    (try simp only [pt_])
    refine tk (i := 7) (oi := ⟨some 4, _, _, _, _, _⟩) (v := ?v7_28) hHeld rfl ?y7_28 ?r7_28
    case y7_28 => (intro w _; first | (go_simp; done) | (go_simp; with_reducible rfl) | (with_reducible rfl))
    (try simp only [pt_])
    refine tk (i := 8) (oi := ⟨some 5, _, _, _, _, _⟩) (v := ?v8_29) hHeld rfl ?y8_29 ?r8_29
    case y8_29 => (intro w _; first | (go_simp; done) | (go_simp; with_reducible rfl) | (with_reducible rfl))
    (try simp only [pt_])
    refine wpAnyH_done (by kernel_rfl) ?_ _
    refine NoPanic.normal ?_
    rotate_left 1
    exact AllReadyH.nil
    exact AllReadyH.nil
    obtain ⟨RZ, Z_og, Z_oo, Z_oA, Z_oB, CZ, VZ⟩ := HALL.out
    clear HALL KZ
    generalize (((((ws.setCell ⟨w.heap.size, 0, none⟩ (.int .i64 P)).setCell ⟨w.heap.size, 1, none⟩ (.int .i64 i0)).setCell ⟨w.heap.size, 2, none⟩ (.int .i64 i1)).setCell ⟨w.heap.size, 3, none⟩ (.slice ga gn gc)).setCell ⟨w.heap.size, 4, none⟩ (.slice oa on oc)) = wz at *
    have e_r_0 := RZ.cell 0
    have e_r_1 := RZ.cell 1
    have e_r_2 := RZ.cell 2
    have e_r_3 := RZ.cell 3
    have e_r_4 := RZ.cell 4
    go_wp2
    exact bodyPost_ret (v := .tuple #[.agg #[.int .i64 P, .int .i64 i0, .int .i64 i1, .slice ga gn gc, .slice oa on oc], .int .i64 key, .slice a5 (an + 1) c5, .slice ba bn bc]) (by simp [results, Try.results82, go_sem, e_r_0, e_r_1, e_r_2, e_r_3, e_r_4]) rfl ⟨_, _, _, _, _, _, _, _, _, _, _, _, _, _, _, _, _, _, _, _, _, rfl, hP, hgn, Z_og.lower (by omega), Z_oo.lower (by omega), Z_oA.lower (by omega), Z_oB.lower (by omega), by omega, CZ, VZ⟩
set_option maxHeartbeats 8000000 in
set_option maxRecDepth 100000 in
theorem DrawInputShares_any (a : Option Addr) (n c : Nat) (w : World) (h : Cod w w.heap.size a n c) :
    Calls Try.prog 35 #[.slice a n c] w (IsQ w) := by
  have V0 : Below w.heap.size w (w.alloc (.cells #[.int .i64 0, .int .i64 0, .int .i64 0, .slice none 0 0, .slice none 0 0] 41)) := (Below.refl _ _).alloc (Nat.le_refl _) _
  have hr : Blk (w.alloc (.cells #[.int .i64 0, .int .i64 0, .int .i64 0, .slice none 0 0, .slice none 0 0] 41)) w.heap.size 41 #[.int .i64 0, .int .i64 0, .int .i64 0, .slice none 0 0, .slice none 0 0] := Blk.new w _ _
  have h' := h.belowAll V0
  have hs0 : w.heap.size < (w.alloc (.cells #[.int .i64 0, .int .i64 0, .int .i64 0, .slice none 0 0, .slice none 0 0] 41)).heap.size := by simp
  go_enter Try.func35, Try.ntmps35
  go_upto_region 1 with fail
  generalize (w.alloc (.cells #[.int .i64 0, .int .i64 0, .int .i64 0, .slice none 0 0, .slice none 0 0] 41)) = w0 at *

  go_wp2_with fail
  have C_w1' : Cur (w0.alloc (.cells #[.slice a n c, .int .i64 0, .int .u64 0] 62)) w0.heap.size 0 := Cur.of_new h'
  have V_w1' : Below w0.heap.size w0 (w0.alloc (.cells #[.slice a n c, .int .i64 0, .int .u64 0] 62)) := (Below.refl _ _).alloc (Nat.le_refl _) _
  have S_w1' : w0.heap.size < (w0.alloc (.cells #[.slice a n c, .int .i64 0, .int .u64 0] 62)).heap.size := by simp
  generalize (w0.alloc (.cells #[.slice a n c, .int .i64 0, .int .u64 0] 62)) = w1' at *
  have B_r := hr.below V_w1'
  clear hr

  refine (shared_any w0.heap.size _ _ C_w1' (by omega)).mono ?_
  rintro e w2' ⟨P, i0, i1, ga, gn, gc, G, oa, on, oc, O, key, aa, an, ac, A, ba, bn, bc, B, k_w2', rfl, hP, hgn, og, oo, oA, oB, q_w2', C_w2', o_w2'⟩
  have V_w2' := V_w1'.trans (o_w2'.below1 (Nat.le_refl _) V_w1'.size)
  replace B_r := B_r.only o_w2' (by simp; omega)
  have S_w2' := o_w2'.size
  clear o_w2' V_w1'
  have Z : Only [w.heap.size] w2' (((((w2'.setCell ⟨w.heap.size, 0, none⟩ (.int .i64 P)).setCell ⟨w.heap.size, 1, none⟩ (.int .i64 i0)).setCell ⟨w.heap.size, 2, none⟩ (.int .i64 i1)).setCell ⟨w.heap.size, 3, none⟩ (.slice ga gn gc)).setCell ⟨w.heap.size, 4, none⟩ (.slice oa on oc)) := ((((((Only.refl _ _).setCell _ _ (by simp)).setCell _ _ (by simp)).setCell _ _ (by simp)).setCell _ _ (by simp)).setCell _ _ (by simp))
  have RZ : Blk (((((w2'.setCell ⟨w.heap.size, 0, none⟩ (.int .i64 P)).setCell ⟨w.heap.size, 1, none⟩ (.int .i64 i0)).setCell ⟨w.heap.size, 2, none⟩ (.int .i64 i1)).setCell ⟨w.heap.size, 3, none⟩ (.slice ga gn gc)).setCell ⟨w.heap.size, 4, none⟩ (.slice oa on oc)) w.heap.size 41 #[.int .i64 P, .int .i64 i0, .int .i64 i1, .slice ga gn gc, .slice oa on oc] := (((((B_r.set_ 0 (.int .i64 P)).set_ 1 (.int .i64 i0)).set_ 2 (.int .i64 i1)).set_ 3 (.slice ga gn gc)).set_ 4 (.slice oa on oc))
  have Z_og := og.only Z (fun q hq hq' => by have := (og.feet q hq).1; simp at hq'; omega)
  have Z_oo := oo.only Z (fun q hq hq' => by have := (oo.feet q hq).1; simp at hq'; omega)
  have Z_oA := oA.only Z (fun q hq hq' => by have := (oA.feet q hq).1; simp at hq'; omega)
  have Z_oB := oB.only Z (fun q hq hq' => by have := (oB.feet q hq).1; simp at hq'; omega)
  have VZ : Below w.heap.size w (((((w2'.setCell ⟨w.heap.size, 0, none⟩ (.int .i64 P)).setCell ⟨w.heap.size, 1, none⟩ (.int .i64 i0)).setCell ⟨w.heap.size, 2, none⟩ (.int .i64 i1)).setCell ⟨w.heap.size, 3, none⟩ (.slice ga gn gc)).setCell ⟨w.heap.size, 4, none⟩ (.slice oa on oc)) := ((((((V0.trans ((V_w2').mono V0.size)).setCell (Nat.le_refl _) _).setCell (Nat.le_refl _) _).setCell (Nat.le_refl _) _).setCell (Nat.le_refl _) _).setCell (Nat.le_refl _) _)
  have HALL := Lib.hid (And.intro RZ (And.intro Z_og (And.intro Z_oo (And.intro Z_oA (And.intro Z_oB VZ)))))
  clear RZ Z_og Z_oo Z_oA Z_oB VZ Z
  have y0 := B_r.cell 0
  have y1 := B_r.cell 1
  have y2 := B_r.cell 2
  have y3 := B_r.cell 3
  have y4 := B_r.cell 4
  have z0 := B_r.frozen 0
  have z1 := B_r.frozen 1
  have z2 := B_r.frozen 2
  have z3 := B_r.frozen 3
  have z4 := B_r.frozen 4
  go_wp2
  clear y0 z0 y1 z1 y2 z2 y3 z3 y4 z4
  obtain ⟨RZ, Z_og, Z_oo, Z_oA, Z_oB, VZ⟩ := HALL.out
  clear HALL
  generalize (((((w2'.setCell ⟨w.heap.size, 0, none⟩ (.int .i64 P)).setCell ⟨w.heap.size, 1, none⟩ (.int .i64 i0)).setCell ⟨w.heap.size, 2, none⟩ (.int .i64 i1)).setCell ⟨w.heap.size, 3, none⟩ (.slice ga gn gc)).setCell ⟨w.heap.size, 4, none⟩ (.slice oa on oc)) = wz at *
  have e_r_0 := RZ.cell 0
  have e_r_1 := RZ.cell 1
  have e_r_2 := RZ.cell 2
  have e_r_3 := RZ.cell 3
  have e_r_4 := RZ.cell 4
  exact bodyPost_ret (v := .tuple #[.agg #[.int .i64 P, .int .i64 i0, .int .i64 i1, .slice ga gn gc, .slice oa on oc], .int .i64 key, .slice aa an ac, .slice ba bn bc]) (by simp [results, Try.results35, go_sem, e_r_0, e_r_1, e_r_2, e_r_3, e_r_4]) rfl ⟨_, _, _, _, _, _, _, _, _, _, _, _, _, _, _, _, _, _, _, _, rfl, Z_og.lower (by omega), Z_oo.lower (by omega), Z_oA.lower (by omega), Z_oB.lower (by omega), VZ⟩
set_option maxHeartbeats 8000000 in
set_option maxRecDepth 100000 in
theorem DrawRunShared_any (a : Option Addr) (n c : Nat) (w : World) (h : Cod w w.heap.size a n c) :
    Calls Try.prog 20 #[.slice a n c] w (IsQ w) := by
  have V0 : Below w.heap.size w (w.alloc (.cells #[.int .i64 0, .int .i64 0, .int .i64 0, .slice none 0 0, .slice none 0 0] 41)) := (Below.refl _ _).alloc (Nat.le_refl _) _
  have hr : Blk (w.alloc (.cells #[.int .i64 0, .int .i64 0, .int .i64 0, .slice none 0 0, .slice none 0 0] 41)) w.heap.size 41 #[.int .i64 0, .int .i64 0, .int .i64 0, .slice none 0 0, .slice none 0 0] := Blk.new w _ _
  have h' := h.belowAll V0
  have hs0 : w.heap.size < (w.alloc (.cells #[.int .i64 0, .int .i64 0, .int .i64 0, .slice none 0 0, .slice none 0 0] 41)).heap.size := by simp
  go_enter Try.func20, Try.ntmps20
  go_upto_region 1 with fail
  generalize (w.alloc (.cells #[.int .i64 0, .int .i64 0, .int .i64 0, .slice none 0 0, .slice none 0 0] 41)) = w0 at *

  have B_r := hr
  clear hr

  go_wp2_with fail
  refine (DrawInputShares_any _ _ _ _ h').mono ?_
  rintro e w1' ⟨P, i0, i1, ga, gn, gc, G, oa, on, oc, O, key, aa, an, ac, A, ba, bn, bc, B, rfl, og, oo, oA, oB, u_w1'⟩
  replace B_r := B_r.below u_w1'
  have S_w1' := u_w1'.size
  have V_w1' : Below w0.heap.size w0 w1' := (Below.refl w0.heap.size w0).trans (u_w1'.mono (Below.refl w0.heap.size w0).size)
  clear u_w1'
  have Z : Only [w.heap.size] w1' (((((w1'.setCell ⟨w.heap.size, 0, none⟩ (.int .i64 P)).setCell ⟨w.heap.size, 1, none⟩ (.int .i64 i0)).setCell ⟨w.heap.size, 2, none⟩ (.int .i64 i1)).setCell ⟨w.heap.size, 3, none⟩ (.slice ga gn gc)).setCell ⟨w.heap.size, 4, none⟩ (.slice oa on oc)) := ((((((Only.refl _ _).setCell _ _ (by simp)).setCell _ _ (by simp)).setCell _ _ (by simp)).setCell _ _ (by simp)).setCell _ _ (by simp))
  have RZ : Blk (((((w1'.setCell ⟨w.heap.size, 0, none⟩ (.int .i64 P)).setCell ⟨w.heap.size, 1, none⟩ (.int .i64 i0)).setCell ⟨w.heap.size, 2, none⟩ (.int .i64 i1)).setCell ⟨w.heap.size, 3, none⟩ (.slice ga gn gc)).setCell ⟨w.heap.size, 4, none⟩ (.slice oa on oc)) w.heap.size 41 #[.int .i64 P, .int .i64 i0, .int .i64 i1, .slice ga gn gc, .slice oa on oc] := (((((B_r.set_ 0 (.int .i64 P)).set_ 1 (.int .i64 i0)).set_ 2 (.int .i64 i1)).set_ 3 (.slice ga gn gc)).set_ 4 (.slice oa on oc))
  have Z_og := og.only Z (fun q hq hq' => by have := (og.feet q hq).1; simp at hq'; omega)
  have Z_oo := oo.only Z (fun q hq hq' => by have := (oo.feet q hq).1; simp at hq'; omega)
  have Z_oA := oA.only Z (fun q hq hq' => by have := (oA.feet q hq).1; simp at hq'; omega)
  have Z_oB := oB.only Z (fun q hq hq' => by have := (oB.feet q hq).1; simp at hq'; omega)
  have VZ : Below w.heap.size w (((((w1'.setCell ⟨w.heap.size, 0, none⟩ (.int .i64 P)).setCell ⟨w.heap.size, 1, none⟩ (.int .i64 i0)).setCell ⟨w.heap.size, 2, none⟩ (.int .i64 i1)).setCell ⟨w.heap.size, 3, none⟩ (.slice ga gn gc)).setCell ⟨w.heap.size, 4, none⟩ (.slice oa on oc)) := ((((((V0.trans ((V_w1').mono V0.size)).setCell (Nat.le_refl _) _).setCell (Nat.le_refl _) _).setCell (Nat.le_refl _) _).setCell (Nat.le_refl _) _).setCell (Nat.le_refl _) _)
  have HALL := Lib.hid (And.intro RZ (And.intro Z_og (And.intro Z_oo (And.intro Z_oA (And.intro Z_oB VZ)))))
  clear RZ Z_og Z_oo Z_oA Z_oB VZ Z
  have y0 := B_r.cell 0
  have y1 := B_r.cell 1
  have y2 := B_r.cell 2
  have y3 := B_r.cell 3
  have y4 := B_r.cell 4
  have z0 := B_r.frozen 0
  have z1 := B_r.frozen 1
  have z2 := B_r.frozen 2
  have z3 := B_r.frozen 3
  have z4 := B_r.frozen 4
  go_wp2
  clear y0 z0 y1 z1 y2 z2 y3 z3 y4 z4
  obtain ⟨RZ, Z_og, Z_oo, Z_oA, Z_oB, VZ⟩ := HALL.out
  clear HALL
  generalize (((((w1'.setCell ⟨w.heap.size, 0, none⟩ (.int .i64 P)).setCell ⟨w.heap.size, 1, none⟩ (.int .i64 i0)).setCell ⟨w.heap.size, 2, none⟩ (.int .i64 i1)).setCell ⟨w.heap.size, 3, none⟩ (.slice ga gn gc)).setCell ⟨w.heap.size, 4, none⟩ (.slice oa on oc)) = wz at *
  have e_r_0 := RZ.cell 0
  have e_r_1 := RZ.cell 1
  have e_r_2 := RZ.cell 2
  have e_r_3 := RZ.cell 3
  have e_r_4 := RZ.cell 4
  exact bodyPost_ret (v := .tuple #[.agg #[.int .i64 P, .int .i64 i0, .int .i64 i1, .slice ga gn gc, .slice oa on oc], .int .i64 key, .slice aa an ac, .slice ba bn bc]) (by simp [results, Try.results20, go_sem, e_r_0, e_r_1, e_r_2, e_r_3, e_r_4]) rfl ⟨_, _, _, _, _, _, _, _, _, _, _, _, _, _, _, _, _, _, _, _, rfl, Z_og.lower (by omega), Z_oo.lower (by omega), Z_oA.lower (by omega), Z_oB.lower (by omega), VZ⟩
set_option maxHeartbeats 8000000 in
set_option maxRecDepth 100000 in
theorem DrawRunWithFault_any (a : Option Addr) (n c : Nat) (w : World) (h : Cod w w.heap.size a n c) :
    Calls Try.prog 32 #[.slice a n c] w (FaQ w) := by
  have V0 : Below w.heap.size w (w.alloc (.cells #[.int .i64 0, .int .i64 0, .int .i64 0, .slice none 0 0, .slice none 0 0] 41)) := (Below.refl _ _).alloc (Nat.le_refl _) _
  have hr : Blk (w.alloc (.cells #[.int .i64 0, .int .i64 0, .int .i64 0, .slice none 0 0, .slice none 0 0] 41)) w.heap.size 41 #[.int .i64 0, .int .i64 0, .int .i64 0, .slice none 0 0, .slice none 0 0] := Blk.new w _ _
  have h' := h.belowAll V0
  have hs0 : w.heap.size < (w.alloc (.cells #[.int .i64 0, .int .i64 0, .int .i64 0, .slice none 0 0, .slice none 0 0] 41)).heap.size := by simp
  go_enter Try.func32, Try.ntmps32
  go_upto_region 1 with fail
  generalize (w.alloc (.cells #[.int .i64 0, .int .i64 0, .int .i64 0, .slice none 0 0, .slice none 0 0] 41)) = w0 at *

  go_wp2_with fail
  have C_w1' : Cur (w0.alloc (.cells #[.slice a n c, .int .i64 0, .int .u64 0] 62)) w0.heap.size 0 := Cur.of_new h'
  have V_w1' : Below w0.heap.size w0 (w0.alloc (.cells #[.slice a n c, .int .i64 0, .int .u64 0] 62)) := (Below.refl _ _).alloc (Nat.le_refl _) _
  have S_w1' : w0.heap.size < (w0.alloc (.cells #[.slice a n c, .int .i64 0, .int .u64 0] 62)).heap.size := by simp
  generalize (w0.alloc (.cells #[.slice a n c, .int .i64 0, .int .u64 0] 62)) = w1' at *
  have B_r := hr.below V_w1'
  clear hr

  refine (shared_any w0.heap.size _ _ C_w1' (by omega)).mono ?_
  rintro e w2' ⟨P, i0, i1, ga, gn, gc, G, oa, on, oc, O, key, aa, an, ac, A, ba, bn, bc, B, k_w2', rfl, hP, hgn, og, oo, oA, oB, q_w2', C_w2', o_w2'⟩
  have V_w2' := V_w1'.trans (o_w2'.below1 (Nat.le_refl _) V_w1'.size)
  replace B_r := B_r.only o_w2' (by simp; omega)
  have S_w2' := o_w2'.size
  clear o_w2' V_w1'
  go_upto_region 3 with fail
  refine Exists.elim (Blk.new_ w2' (b := w2'.heap.size) rfl 41 #[.int .i64 P, .int .i64 i0, .int .i64 i1, .slice ga gn gc, .slice oa on oc]) (fun w3' q => ?_)
  rw [q.1]; have B_x := q.2.1; have s_w3' := q.2.2.1; have u_w3' := q.2.2.2; clear q
  replace B_r := B_r.below u_w3'
  replace og := og.below u_w3'
  replace oo := oo.below u_w3'
  replace oA := oA.below u_w3'
  replace oB := oB.below u_w3'
  have C_w3' := C_w2'.below u_w3'
  have S_w3' : w2'.heap.size + 1 ≤ w3'.heap.size := Nat.le_of_eq s_w3'.symm
  have V_w3' := V_w2'.trans (u_w3'.mono (V_w2').size)
  clear u_w3' s_w3' V_w2'
  have hbx : w0.heap.size < w2'.heap.size := by omega
  generalize w2'.heap.size = bx at *



  have e_x_0 : w3'.cell? ⟨bx, 0, none⟩ = some (.int .i64 P) := B_x.cell 0
  have e_x_1 : w3'.cell? ⟨bx, 1, none⟩ = some (.int .i64 i0) := B_x.cell 1
  have e_x_2 : w3'.cell? ⟨bx, 2, none⟩ = some (.int .i64 i1) := B_x.cell 2
  have e_x_3 : w3'.cell? ⟨bx, 3, none⟩ = some (.slice ga gn gc) := B_x.cell 3
  have e_x_4 : w3'.cell? ⟨bx, 4, none⟩ = some (.slice oa on oc) := B_x.cell 4
  go_wp2_with fail
  clear e_x_0 e_x_1 e_x_2 e_x_3 e_x_4
  refine (pick_any w0.heap.size _ ((gn : Int) + 1) _ C_w3' (by omega)).mono ?_
  rintro e w4' ⟨y0, k_w4', rfl, y00, y01, y02, q_w4', C_w4', o_w4'⟩
  have V_w4' := V_w3'.trans (o_w4'.below1 (Nat.le_refl _) V_w3'.size)
  replace og := og.cur o_w4' (by omega)
  replace oo := oo.cur o_w4' (by omega)
  replace oA := oA.cur o_w4' (by omega)
  replace oB := oB.cur o_w4' (by omega)
  replace B_r := B_r.only o_w4' (by simp; omega)
  replace B_x := B_x.only o_w4' (by simp; omega)
  have S_w4' := o_w4'.size
  clear o_w4' V_w3'
  clear y01
  have e_x_0 : w4'.cell? ⟨bx, 0, none⟩ = some (.int .i64 P) := B_x.cell 0
  have e_x_1 : w4'.cell? ⟨bx, 1, none⟩ = some (.int .i64 i0) := B_x.cell 1
  have e_x_2 : w4'.cell? ⟨bx, 2, none⟩ = some (.int .i64 i1) := B_x.cell 2
  have e_x_3 : w4'.cell? ⟨bx, 3, none⟩ = some (.slice ga gn gc) := B_x.cell 3
  have e_x_4 : w4'.cell? ⟨bx, 4, none⟩ = some (.slice oa on oc) := B_x.cell 4
  go_wp2
  clear e_x_0 e_x_1 e_x_2 e_x_3 e_x_4

  go_loopw [35, 13] (fun v u wr => ∃ i : Nat, i ≤ gn ∧ v = .int .i64 i ∧ (∃ y : Int, u = .int .i64 y) ∧ Only [w0.heap.size] w4' wr ∧ ∃ kk : Nat, kk ≤ 3000 + 2 * i ∧ Cur wr w0.heap.size kk) (fun v _ _ => gn - (intOf v).toNat)
  case atStart => exact ⟨0, by omega, rfl, ⟨_, rfl⟩, Only.refl _ _, _, by omega, C_w4'⟩
  case round =>
    obtain ⟨i, hi, rfl, ⟨y, rfl⟩, hO, kk, hkk, hc⟩ := hrel
    have hws := hO.size
    by_cases hlt : i < gn
    · have hli : (i : Int) < (gn : Int) := by omega
      obtain ⟨gb, o, rfl, hcl⟩ := (og.cur hO (by omega)).flat.at (by omega)
      have q0 : wr.cell? ⟨gb, o + i * 3, none⟩ = some (.int .i64 (G.getD (i * 3) 0)) := hcl (i * 3) (by omega)
      have q1 : wr.cell? ⟨gb, o + i * 3 + 1, none⟩ = some (.int .i64 (G.getD (i * 3 + 1) 0)) := by have := hcl (i * 3 + 1) (by omega); simpa only [Nat.add_assoc] using this
      have q2 : wr.cell? ⟨gb, o + i * 3 + 2, none⟩ = some (.int .i64 (G.getD (i * 3 + 2) 0)) := by have := hcl (i * 3 + 2) (by omega); simpa only [Nat.add_assoc] using this
      clear hcl
      generalize G.getD (i * 3) 0 = kd at *
      generalize G.getD (i * 3 + 1) 0 = ka at *
      generalize G.getD (i * 3 + 2) 0 = kb at *



      go_upto_region 7 with fail
      clear q0 q1 q2
      refine Exists.elim (Blk.new_ wr (b := wr.heap.size) rfl 78 #[.int .i64 kd, .int .i64 ka, .int .i64 kb]) (fun w5' q => ?_)
      rw [q.1]; have B_q := q.2.1; have s_w5' := q.2.2.1; have u_w5' := q.2.2.2; clear q
      have C_w5' := hc.below u_w5'
      have S_w5' : wr.heap.size + 1 ≤ w5'.heap.size := Nat.le_of_eq s_w5'.symm
      have V_w5' := hO.trans (Only.of_below u_w5')
      clear u_w5' s_w5' hO
      by_cases hk : kd = 1

      · subst hk
        have e_q := B_q.all3
        go_wp2_with fail
        clear e_q
        refine (one_any w0.heap.size _ _ _ C_w5' (by omega)).mono ?_
        rintro e w6' ⟨b, k_w6', rfl, q_w6', C_w6', o_w6'⟩
        have V_w6' := V_w5'.trans o_w6'
        replace B_q := B_q.only o_w6' (by simp; omega)
        have S_w6' := o_w6'.size
        clear o_w6' V_w5'
        cases b
        all_goals
          go_wp2
          go_roundw
          case rel => exact ⟨i + 1, by omega, by go_num, ⟨_, rfl⟩, V_w6', _, by omega, C_w6'⟩
          case measure => simp [intOf]; omega

      · have hkb : ((kd == 1) : Bool) = false := by simpa using hk
        have e_q := B_q.all3
        go_wp2
        clear e_q
        go_roundw
        case rel => exact ⟨i + 1, by omega, by go_num, ⟨_, rfl⟩, V_w5', _, by omega, C_w5'⟩
        case measure => simp [intOf]; omega
    · obtain rfl : gn = i := by omega

      have V9 : Below w0.heap.size w0 wr := V_w4'.trans (hO.below1 (Nat.le_refl _) (V_w4').size)
      replace B_x := B_x.only hO (by simp; omega)
      replace B_r := B_r.only hO (by simp; omega)
      replace og := og.cur hO (by omega)
      replace oo := oo.cur hO (by omega)
      replace oA := oA.cur hO (by omega)
      replace oB := oB.cur hO (by omega)
      clear hO V_w4' C_w4'

      go_upto_region 10 with fail
      refine wp_region_noPanic ?_
      refine wp_region_held_drew (S := (fun W => Blk W (bx) 41 #[.int .i64 P, .int .i64 i0, .int .i64 i1, .slice ga gn gc, .slice oa on oc])) (by kernel_rfl) ?hS30 (fun hHeld => ?go30)
      case hS30 => exact B_x.drew
      refine tk (i := 0) (oi := ⟨some 49, _, _, _, _, _⟩) (v := ?v0_31) hHeld rfl ?y0_31 ?r0_31
      case y0_31 => (intro w qS0; have cS0_0 := qS0.cell 0; have cS0_1 := qS0.cell 1; have cS0_2 := qS0.cell 2; have cS0_3 := qS0.cell 3; have cS0_4 := qS0.cell 4; first | (go_simp; done) | (go_simp; with_reducible rfl) | (with_reducible rfl))
      (try simp only [pt_])
      refine tk (i := 1) (oi := ⟨some 50, _, _, _, _, _⟩) (v := ?v1_32) hHeld rfl ?y1_32 ?r1_32
      case y1_32 => (intro w _; first | (go_simp; done) | (go_simp; with_reducible rfl) | (with_reducible rfl))
      (try simp only [pt_])
      refine tk (i := 2) (oi := ⟨some 51, _, _, _, _, _⟩) (v := ?v2_33) hHeld rfl ?y2_33 ?r2_33
      case y2_33 => (intro w _; first | (go_simp; done) | (go_simp; with_reducible rfl) | (with_reducible rfl))
      (try simp only [pt_])
      refine tk (i := 3) (oi := ⟨some 52, _, _, _, _, _⟩) (v := ?v3_34) hHeld rfl ?y3_34 ?r3_34
      case y3_34 => (intro w _; first | (go_simp; done) | (go_simp; with_reducible rfl) | (with_reducible rfl))
      (try simp only [pt_])
      refine tk (i := 4) (oi := ⟨some 53, _, _, _, _, _⟩) (v := ?v4_35) hHeld rfl ?y4_35 ?r4_35
      case y4_35 => (intro w _; first | (go_simp; done) | (go_simp; with_reducible rfl) | (with_reducible rfl))
      (try simp only [pt_])
      refine tk (i := 5) (oi := ⟨some 54, _, _, _, _, _⟩) (v := ?v5_36) hHeld rfl ?y5_36 ?r5_36
      case y5_36 => (intro w _; first | (go_simp; done) | (go_simp; with_reducible rfl) | (with_reducible rfl))
      (try simp only [pt_])
      refine tk (i := 6) (oi := ⟨some 55, _, _, _, _, _⟩) (v := ?v6_37) hHeld rfl ?y6_37 ?r6_37
      case y6_37 => (intro w _; first | (go_simp; done) | (go_simp; with_reducible rfl) | (with_reducible rfl))
      (try simp only [pt_])
      refine tk (i := 7) (oi := ⟨some 56, _, _, _, _, _⟩) (v := ?v7_38) hHeld rfl ?y7_38 ?r7_38
      case y7_38 => (intro w qS0; have cS0_0 := qS0.cell 0; have cS0_1 := qS0.cell 1; have cS0_2 := qS0.cell 2; have cS0_3 := qS0.cell 3; have cS0_4 := qS0.cell 4; first | (go_simp; done) | (go_simp; with_reducible rfl) | (with_reducible rfl))
      (try simp only [pt_])
      refine wpAnyH_ready (rs := [8]) (by kernel_rfl) (by simp) ?_
      refine AllReadyH.cons (o := { dst := some 57, op := _, type := _, pos := _, after := _, guard := _ }) rfl (fun K hK => ?_) ?_
      go_simp
      refine (element_any w0.heap.size _ P _ (Cur.drew hc) (by omega) (by omega)).mono ?_
      rintro e ws ⟨ch, k8, rfl, ch0, ch1, q8, c8, o8⟩
      have bx8 := (Blk.drew B_x).only o8 (by simp; omega)
      have br8 := (Blk.drew B_r).only o8 (by simp; omega)
      have og8 := og.drew.cur o8 (by omega)
      have oo8 := oo.drew.cur o8 (by omega)
      have oA8 := oA.drew.cur o8 (by omega)
      have oB8 := oB.drew.cur o8 (by omega)
      have v8 := (V9.drew).trans (o8.below1 (Nat.le_refl _) (V9.drew).size)
      have s8 := o8.size
      clear o8
      refine hK.out _ _ ?_ (fun hHeld => ?_)
      · exact bx8
      clear hK K
      (try simp only [pt_])
      refine wpAnyH_ready (rs := [9]) (by kernel_rfl) (by simp) ?_
      refine AllReadyH.cons (o := { dst := none, op := _, type := _, pos := _, after := _, guard := _ }) rfl (fun K hK => ?_) ?_
      have Z : Only [w.heap.size] ws (((((ws.setCell ⟨w.heap.size, 0, none⟩ (.int .i64 P)).setCell ⟨w.heap.size, 1, none⟩ (.int .i64 i0)).setCell ⟨w.heap.size, 2, none⟩ (.int .i64 i1)).setCell ⟨w.heap.size, 3, none⟩ (.slice ga gn gc)).setCell ⟨w.heap.size, 4, none⟩ (.slice oa on oc)) := ((((((Only.refl _ _).setCell _ _ (by simp)).setCell _ _ (by simp)).setCell _ _ (by simp)).setCell _ _ (by simp)).setCell _ _ (by simp))
      have KZ := bx8.only Z (by simp; omega)
      have RZ : Blk (((((ws.setCell ⟨w.heap.size, 0, none⟩ (.int .i64 P)).setCell ⟨w.heap.size, 1, none⟩ (.int .i64 i0)).setCell ⟨w.heap.size, 2, none⟩ (.int .i64 i1)).setCell ⟨w.heap.size, 3, none⟩ (.slice ga gn gc)).setCell ⟨w.heap.size, 4, none⟩ (.slice oa on oc)) w.heap.size 41 #[.int .i64 P, .int .i64 i0, .int .i64 i1, .slice ga gn gc, .slice oa on oc] := (((((br8.set_ 0 (.int .i64 P)).set_ 1 (.int .i64 i0)).set_ 2 (.int .i64 i1)).set_ 3 (.slice ga gn gc)).set_ 4 (.slice oa on oc))
      have Z_og := og8.only Z (fun q hq hq' => by have := (og8.feet q hq).1; simp at hq'; omega)
      have Z_oo := oo8.only Z (fun q hq hq' => by have := (oo8.feet q hq).1; simp at hq'; omega)
      have Z_oA := oA8.only Z (fun q hq hq' => by have := (oA8.feet q hq).1; simp at hq'; omega)
      have Z_oB := oB8.only Z (fun q hq hq' => by have := (oB8.feet q hq).1; simp at hq'; omega)
      have VZ : Below w.heap.size w (((((ws.setCell ⟨w.heap.size, 0, none⟩ (.int .i64 P)).setCell ⟨w.heap.size, 1, none⟩ (.int .i64 i0)).setCell ⟨w.heap.size, 2, none⟩ (.int .i64 i1)).setCell ⟨w.heap.size, 3, none⟩ (.slice ga gn gc)).setCell ⟨w.heap.size, 4, none⟩ (.slice oa on oc)) := ((((((V0.trans (v8.mono V0.size)).setCell (Nat.le_refl _) _).setCell (Nat.le_refl _) _).setCell (Nat.le_refl _) _).setCell (Nat.le_refl _) _).setCell (Nat.le_refl _) _)
      have HALL := Lib.hid (And.intro RZ (And.intro Z_og (And.intro Z_oo (And.intro Z_oA (And.intro Z_oB VZ)))))
      clear RZ Z_og Z_oo Z_oA Z_oB VZ Z
      have y0 := br8.cell 0
      have y1 := br8.cell 1
      have y2 := br8.cell 2
      have y3 := br8.cell 3
      have y4 := br8.cell 4
      have z0 := br8.frozen 0
      have z1 := br8.frozen 1
      have z2 := br8.frozen 2
      have z3 := br8.frozen 3
      have z4 := br8.frozen 4
      go_simp
      clear y0 z0 y1 z1 y2 z2 y3 z3 y4 z4
      refine hK.out _ _ ?_ (fun hHeld => ?_)
      · exact KZ
      clear hK K
      (try simp only [pt_])
      refine tk (i := 10) (oi := ⟨some 3, _, _, _, _, _⟩) (v := ?v10_39) hHeld rfl ?y10_39 ?r10_39
      case y10_39 => (intro w _; first | (go_simp; done) | (go_simp; with_reducible rfl) | (with_reducible rfl))
      (try simp only [pt_])
      refine tk (i := 11) (oi := ⟨some 4, _, _, _, _, _⟩) (v := ?v11_40) hHeld rfl ?y11_40 ?r11_40
      case y11_40 => (intro w _; first | (go_simp; done) | (go_simp; with_reducible rfl) | (with_reducible rfl))
      (try simp only [pt_])
      refine tk (i := 12) (oi := ⟨some 5, _, _, _, _, _⟩) (v := ?v12_41) hHeld rfl ?y12_41 ?r12_41
      case y12_41 => (intro w _; first | (go_simp; done) | (go_simp; with_reducible rfl) | (with_reducible rfl))
      (try simp only [pt_])
      refine tk (i := 13) (oi := ⟨some 6, _, _, _, _, _⟩) (v := ?v13_42) hHeld rfl ?y13_42 ?r13_42
      case y13_42 => (intro w _; first | (go_simp; done) | (go_simp; with_reducible rfl) | (with_reducible rfl))
      (try simp only [pt_])
      refine tk (i := 14) (oi := ⟨some 7, _, _, _, _, _⟩) (v := ?v14_43) hHeld rfl ?y14_43 ?r14_43
      case y14_43 => (intro w _; first | (go_simp; done) | (go_simp; with_reducible rfl) | (with_reducible rfl))
      (try simp only [pt_])
      refine wpAnyH_done (by kernel_rfl) ?_ _
      refine NoPanic.normal ?_
      rotate_left 1
      exact AllReadyH.nil
      exact AllReadyH.nil
      obtain ⟨RZ, Z_og, Z_oo, Z_oA, Z_oB, VZ⟩ := HALL.out
      clear HALL KZ
      generalize (((((ws.setCell ⟨w.heap.size, 0, none⟩ (.int .i64 P)).setCell ⟨w.heap.size, 1, none⟩ (.int .i64 i0)).setCell ⟨w.heap.size, 2, none⟩ (.int .i64 i1)).setCell ⟨w.heap.size, 3, none⟩ (.slice ga gn gc)).setCell ⟨w.heap.size, 4, none⟩ (.slice oa on oc)) = wz at *
      have e_r_0 := RZ.cell 0
      have e_r_1 := RZ.cell 1
      have e_r_2 := RZ.cell 2
      have e_r_3 := RZ.cell 3
      have e_r_4 := RZ.cell 4
      go_wp2
      exact bodyPost_ret (v := .tuple #[.agg #[.int .i64 P, .int .i64 i0, .int .i64 i1, .slice ga gn gc, .slice oa on oc], .int .i64 key, .slice aa an ac, .slice ba bn bc, .int .i64 y, .int .i64 ch]) (by simp [results, Try.results32, go_sem, e_r_0, e_r_1, e_r_2, e_r_3, e_r_4]) rfl ⟨_, _, _, _, _, _, _, _, _, _, _, _, _, _, _, _, _, _, _, _, _, _, rfl, Z_og.lower (by omega), Z_oo.lower (by omega), Z_oA.lower (by omega), Z_oB.lower (by omega), VZ⟩
end Go.Proofs.Ythpcmbdkboajcaa
