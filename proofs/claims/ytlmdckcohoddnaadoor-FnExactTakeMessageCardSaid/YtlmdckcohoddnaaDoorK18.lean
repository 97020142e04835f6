/- Lemmas and walks that the claim's proof rests on, part 18. -/
import Derived.Test.YtlmdckcohoddnaaDoorK17
namespace Go.Proofs.YtlmdckcohoddnaaDoor
open Go.RowKit
set_option maxHeartbeats 16000000 in
set_option maxRecDepth 100000 in
theorem FnExactTakeMessage_walk (a0 : Pl) (p0 : PlX) (f1 s1 : Int) (p1 : Option Addr) (pn1 pc1 : Nat) (l1 : List Int) (w : World) (z0 : PlR w p0 a0.shares a0.keys a0.heard) (z1 : Ints w p1 pn1 pc1 l1) (hT : Tbl w) :
    Calls Tryd.prog 8 #[.agg #[.int .i64 a0.P, .int .i64 a0.party, .int .i64 a0.input, .int .i64 a0.mask, .int .i64 a0.delta, .slice p0.sa p0.sn p0.sc, .slice p0.ka p0.kn p0.kc, .int .i64 a0.step, .slice p0.ha p0.hn p0.hc, .int .i64 a0.status, .int .i64 a0.out], .agg #[.int .i64 f1, .int .i64 s1, .slice p1 pn1 pc1]] w fun e w' => e = .returned (.bool true) ∧ Below w.heap.size w w' := by
  have LX := Lib.hid hT
  clear hT
  have CS := fun (W : World) (x0 : PlX) (x1 : Option Addr) (xn1 xc1 : Nat) => spec_TakeMessage_any a0 x0 f1 s1 x1 xn1 xc1 l1 W
  have CI := fun (W : World) (x0 : PlX) (x1 : Option Addr) (xn1 xc1 : Nat) => TakeMessage_any a0 x0 f1 s1 x1 xn1 xc1 l1 W
  have hl0 := tmP_cnt a0 f1 s1 l1
  generalize tmP a0 f1 s1 l1 = d0_0 at CS CI hl0
  generalize moB a0 = d1_0 at CS CI hl0
  replace CS := Lib.hid CS
  replace CI := Lib.hid CI
  by_cases ht0 : (szP p0 a0.shares a0.keys a0.heard : Int) ≤ 1048576
  · skip
    have hn1 : (pn1 : Int) ≤ 9223372036854775807 := z1.le
    by_cases ht1 : (pn1 : Int) ≤ 1048576 - (szP p0 a0.shares a0.keys a0.heard : Int)
    · skip
      go_enter Tryd.func8, Tryd.ntmps8
      go_wp2_with fail
      have V_w1' : Below w.heap.size w ((w.alloc (.cells #[.int .i64 a0.P, .int .i64 a0.party, .int .i64 a0.input, .int .i64 a0.mask, .int .i64 a0.delta, .slice p0.sa p0.sn p0.sc, .slice p0.ka p0.kn p0.kc, .int .i64 a0.step, .slice p0.ha p0.hn p0.hc, .int .i64 a0.status, .int .i64 a0.out] 26)).alloc (.cells #[.int .i64 f1, .int .i64 s1, .slice p1 pn1 pc1] 53)) := (((((Below.refl w.heap.size w)).alloc (by have := ((Below.refl w.heap.size w)).size; first | exact this | (simp; omega) | simp) _)).alloc (by have := ((Below.refl w.heap.size w)).size; first | exact this | (simp; omega) | simp) _)
      have B_p0 : Blk ((w.alloc (.cells #[.int .i64 a0.P, .int .i64 a0.party, .int .i64 a0.input, .int .i64 a0.mask, .int .i64 a0.delta, .slice p0.sa p0.sn p0.sc, .slice p0.ka p0.kn p0.kc, .int .i64 a0.step, .slice p0.ha p0.hn p0.hc, .int .i64 a0.status, .int .i64 a0.out] 26)).alloc (.cells #[.int .i64 f1, .int .i64 s1, .slice p1 pn1 pc1] 53)) (w.heap.size) 26 #[.int .i64 a0.P, .int .i64 a0.party, .int .i64 a0.input, .int .i64 a0.mask, .int .i64 a0.delta, .slice p0.sa p0.sn p0.sc, .slice p0.ka p0.kn p0.kc, .int .i64 a0.step, .slice p0.ha p0.hn p0.hc, .int .i64 a0.status, .int .i64 a0.out] := by simpa using ((Blk.new w 26 #[.int .i64 a0.P, .int .i64 a0.party, .int .i64 a0.input, .int .i64 a0.mask, .int .i64 a0.delta, .slice p0.sa p0.sn p0.sc, .slice p0.ka p0.kn p0.kc, .int .i64 a0.step, .slice p0.ha p0.hn p0.hc, .int .i64 a0.status, .int .i64 a0.out]).alloc _ : Blk ((w.alloc (.cells #[.int .i64 a0.P, .int .i64 a0.party, .int .i64 a0.input, .int .i64 a0.mask, .int .i64 a0.delta, .slice p0.sa p0.sn p0.sc, .slice p0.ka p0.kn p0.kc, .int .i64 a0.step, .slice p0.ha p0.hn p0.hc, .int .i64 a0.status, .int .i64 a0.out] 26)).alloc (.cells #[.int .i64 f1, .int .i64 s1, .slice p1 pn1 pc1] 53)) _ _ _)
      have B_p1 : Blk ((w.alloc (.cells #[.int .i64 a0.P, .int .i64 a0.party, .int .i64 a0.input, .int .i64 a0.mask, .int .i64 a0.delta, .slice p0.sa p0.sn p0.sc, .slice p0.ka p0.kn p0.kc, .int .i64 a0.step, .slice p0.ha p0.hn p0.hc, .int .i64 a0.status, .int .i64 a0.out] 26)).alloc (.cells #[.int .i64 f1, .int .i64 s1, .slice p1 pn1 pc1] 53)) (w.heap.size + 1) 53 #[.int .i64 f1, .int .i64 s1, .slice p1 pn1 pc1] := by simpa using ((Blk.new (w.alloc (.cells #[.int .i64 a0.P, .int .i64 a0.party, .int .i64 a0.input, .int .i64 a0.mask, .int .i64 a0.delta, .slice p0.sa p0.sn p0.sc, .slice p0.ka p0.kn p0.kc, .int .i64 a0.step, .slice p0.ha p0.hn p0.hc, .int .i64 a0.status, .int .i64 a0.out] 26)) 53 #[.int .i64 f1, .int .i64 s1, .slice p1 pn1 pc1]) : Blk ((w.alloc (.cells #[.int .i64 a0.P, .int .i64 a0.party, .int .i64 a0.input, .int .i64 a0.mask, .int .i64 a0.delta, .slice p0.sa p0.sn p0.sc, .slice p0.ka p0.kn p0.kc, .int .i64 a0.step, .slice p0.ha p0.hn p0.hc, .int .i64 a0.status, .int .i64 a0.out] 26)).alloc (.cells #[.int .i64 f1, .int .i64 s1, .slice p1 pn1 pc1] 53)) _ _ _)
      have S_w1' : w.heap.size + 2 ≤ ((w.alloc (.cells #[.int .i64 a0.P, .int .i64 a0.party, .int .i64 a0.input, .int .i64 a0.mask, .int .i64 a0.delta, .slice p0.sa p0.sn p0.sc, .slice p0.ka p0.kn p0.kc, .int .i64 a0.step, .slice p0.ha p0.hn p0.hc, .int .i64 a0.status, .int .i64 a0.out] 26)).alloc (.cells #[.int .i64 f1, .int .i64 s1, .slice p1 pn1 pc1] 53)).heap.size := by simp
      generalize ((w.alloc (.cells #[.int .i64 a0.P, .int .i64 a0.party, .int .i64 a0.input, .int .i64 a0.mask, .int .i64 a0.delta, .slice p0.sa p0.sn p0.sc, .slice p0.ka p0.kn p0.kc, .int .i64 a0.step, .slice p0.ha p0.hn p0.hc, .int .i64 a0.status, .int .i64 a0.out] 26)).alloc (.cells #[.int .i64 f1, .int .i64 s1, .slice p1 pn1 pc1] 53)) = w1' at *
      refine (szPlayer_o_yes a0 p0 (1048576) _ (z0.below V_w1') (by omega) (by omega)).mono ?_
      rintro e w2' ⟨rfl, u_w2'⟩
      replace B_p0 := B_p0.below u_w2'
      replace B_p1 := B_p1.below u_w2'
      have V_w2' := V_w1'.trans (u_w2'.mono (V_w1').size)
      have S_w2' := u_w2'.size
      clear u_w2' V_w1'
      have e_p1_0 : w2'.cell? ⟨w.heap.size + 1, 0, none⟩ = some (.int .i64 f1) := B_p1.cell 0
      have e_p1_1 : w2'.cell? ⟨w.heap.size + 1, 1, none⟩ = some (.int .i64 s1) := B_p1.cell 1
      have e_p1_2 : w2'.cell? ⟨w.heap.size + 1, 2, none⟩ = some (.slice p1 pn1 pc1) := B_p1.cell 2
      go_wp2_with fail
      clear e_p1_0 e_p1_1 e_p1_2
      refine (szMessage_yes _ _ _ _ _ (1048576 - (szP p0 a0.shares a0.keys a0.heard : Int)) _ hn1 (by omega) (by omega)).mono ?_
      rintro e w3' ⟨rfl, u_w3'⟩
      replace B_p0 := B_p0.below u_w3'
      replace B_p1 := B_p1.below u_w3'
      have V_w3' := V_w2'.trans (u_w3'.mono (V_w2').size)
      have S_w3' := u_w3'.size
      clear u_w3' V_w2'
      have hlf : (0 : Int) ≤ 1048576 - (szP p0 a0.shares a0.keys a0.heard : Int) - (pn1 : Int) := by omega
      have hcn0 := z0.cnt (by omega)
      replace ht0 : (szP p0 a0.shares a0.keys a0.heard : Int) ≤ 1048576 := by omega
      go_upto_region 8 with fail
      go_cut [6, 7] (fun s6 s7 wx => ∃ (r0 : PlX) (F_r0 : List Nat) (bx_r0 : Nat), s6 = .pointer (some ⟨bx_r0, 0, none⟩) ∧ s7 = .bool d1_0 ∧ PlO wx w3'.heap.size r0 d0_0.shares d0_0.keys d0_0.heard F_r0 ∧ (∀ k ∈ F_r0, (w3'.heap.size ≤ k ∧ k < wx.heap.size) ∧ k ≠ bx_r0) ∧ Blk wx bx_r0 31 #[.int .i64 d0_0.P, .int .i64 d0_0.party, .int .i64 d0_0.input, .int .i64 d0_0.mask, .int .i64 d0_0.delta, .slice r0.sa r0.sn r0.sc, .slice r0.ka r0.kn r0.kc, .int .i64 d0_0.step, .slice r0.ha r0.hn r0.hc, .int .i64 d0_0.status, .int .i64 d0_0.out] ∧ (w3'.heap.size ≤ bx_r0 ∧ bx_r0 < wx.heap.size) ∧ Below w3'.heap.size w3' wx)
      case first =>
        replace B_p0 := Blk.drew B_p0
        replace B_p1 := Blk.drew B_p1
        have SC : w3'.heap.size ≤ w3'.drew.heap.size := Nat.le_refl _
        have U : Below w3'.heap.size w3' w3'.drew := (Below.refl _ _).drew
        refine wp_region_noPanic ?_
        refine wp_region_held_drew (S := (fun W => Blk W (w.heap.size) 26 #[.int .i64 a0.P, .int .i64 a0.party, .int .i64 a0.input, .int .i64 a0.mask, .int .i64 a0.delta, .slice p0.sa p0.sn p0.sc, .slice p0.ka p0.kn p0.kc, .int .i64 a0.step, .slice p0.ha p0.hn p0.hc, .int .i64 a0.status, .int .i64 a0.out] ∧ Blk W (w.heap.size + 1) 53 #[.int .i64 f1, .int .i64 s1, .slice p1 pn1 pc1])) (by kernel_rfl) ?hS1 (fun hHeld => ?go1)
        case hS1 => exact ⟨B_p0, B_p1⟩
        refine wpAnyH_take (i := 0) (oi := { dst := some 28, op := _, type := _, pos := _, after := _, guard := _ }) (v := ?v0_2) rfl (by kernel_rfl) (by kernel_rfl) (by kernel_rfl) (fun _ _ _ h => h) (Or.inl ⟨by rfl, ?hy0_2⟩) hHeld ?rest0_2
        case hy0_2 => (intro w hSw; obtain ⟨qS0, qS1⟩ := hSw; have cS0_0 := qS0.cell 0; have cS0_1 := qS0.cell 1; have cS0_2 := qS0.cell 2; have cS0_3 := qS0.cell 3; have cS0_4 := qS0.cell 4; have cS0_5 := qS0.cell 5; have cS0_6 := qS0.cell 6; have cS0_7 := qS0.cell 7; have cS0_8 := qS0.cell 8; have cS0_9 := qS0.cell 9; have cS0_10 := qS0.cell 10; have cS1_0 := qS1.cell 0; have cS1_1 := qS1.cell 1; have cS1_2 := qS1.cell 2; first | (go_simp; done) | (go_simp; with_reducible rfl) | (with_reducible rfl))
        (try simp only [Act.put, List.setIfInBounds_toArray, List.set_cons_zero, List.set_cons_succ])
        refine wpAnyH_take (i := 2) (oi := { dst := some 30, op := _, type := _, pos := _, after := _, guard := _ }) (v := ?v2_3) rfl (by kernel_rfl) (by kernel_rfl) (by kernel_rfl) (fun _ _ _ h => h) (Or.inl ⟨by rfl, ?hy2_3⟩) hHeld ?rest2_3
        case hy2_3 => (intro w hSw; obtain ⟨qS0, qS1⟩ := hSw; have cS0_0 := qS0.cell 0; have cS0_1 := qS0.cell 1; have cS0_2 := qS0.cell 2; have cS0_3 := qS0.cell 3; have cS0_4 := qS0.cell 4; have cS0_5 := qS0.cell 5; have cS0_6 := qS0.cell 6; have cS0_7 := qS0.cell 7; have cS0_8 := qS0.cell 8; have cS0_9 := qS0.cell 9; have cS0_10 := qS0.cell 10; have cS1_0 := qS1.cell 0; have cS1_1 := qS1.cell 1; have cS1_2 := qS1.cell 2; first | (go_simp; done) | (go_simp; with_reducible rfl) | (with_reducible rfl))
        (try simp only [Act.put, List.setIfInBounds_toArray, List.set_cons_zero, List.set_cons_succ])
        refine wpAnyH_ready (rs := [1, 8]) (by kernel_rfl) (by simp) ?_
        refine AllReadyH.cons (o := { dst := some 29, op := _, type := _, pos := _, after := _, guard := _ }) rfl (fun K hK => ?_) ?_
        go_simp
        refine (toPlayer_o a0 p0 _ (z0.below (V_w3'.trans (U.mono V_w3'.size))) ht0).mono ?_
        rintro e wo1 ⟨y0, F_y0, rfl, oy0, uwo1⟩
        replace B_p0 := Blk.below B_p0 uwo1
        replace B_p1 := Blk.below B_p1 uwo1
        have S_wo1 : w3'.drew.heap.size ≤ wo1.heap.size := uwo1.size
        replace U : Below w3'.heap.size w3' wo1 := U.trans (uwo1.mono U.size)
        clear uwo1
        refine hK.out _ _ ?_ (fun hHeld => ?_)
        · (exact ⟨B_p0, B_p1⟩)
        clear hK K
        (try simp only [Act.put, List.setIfInBounds_toArray, List.set_cons_zero, List.set_cons_succ])
        refine wpAnyH_ready (rs := [3, 8]) (by kernel_rfl) (by simp) ?_
        refine AllReadyH.cons (o := { dst := some 31, op := _, type := _, pos := _, after := _, guard := _ }) rfl (fun K hK => ?_) ?_
        go_simp
        refine (toMessage_any _ _ _ _ _ l1 _ (z1.below (V_w3'.trans (U.mono V_w3'.size))) (by omega)).mono ?_
        rintro e wo3 ⟨y1, yc1, rfl, oy1, uwo3⟩
        replace B_p0 := Blk.below B_p0 uwo3
        replace B_p1 := Blk.below B_p1 uwo3
        replace oy0 := oy0.below uwo3
        have S_wo3 : wo1.heap.size ≤ wo3.heap.size := uwo3.size
        replace U : Below w3'.heap.size w3' wo3 := U.trans (uwo3.mono U.size)
        clear uwo3
        refine hK.out _ _ ?_ (fun hHeld => ?_)
        · (exact ⟨B_p0, B_p1⟩)
        clear hK K
        (try simp only [Act.put, List.setIfInBounds_toArray, List.set_cons_zero, List.set_cons_succ])
        refine wpAnyH_ready (rs := [4, 8]) (by kernel_rfl) (by simp) ?_
        refine AllReadyH.cons (o := { dst := some 32, op := _, type := _, pos := _, after := _, guard := _ }) rfl (fun K hK => ?_) ?_
        go_simp
        refine (CS.out _ _ _ _ _ oy0.rd oy1.ints (LX.out.below (V_w3'.trans (U.mono V_w3'.size)))).mono ?_
        rintro e wo4 ⟨r0, F_r0, rfl, or0, uwo4⟩
        have Q_or0 := Lib.hid or0.feet
        replace or0 := or0.lower (b' := w3'.heap.size) (by omega)
        replace B_p0 := Blk.below B_p0 uwo4
        replace B_p1 := Blk.below B_p1 uwo4
        have S_wo4 : wo3.heap.size ≤ wo4.heap.size := uwo4.size
        replace U : Below w3'.heap.size w3' wo4 := U.trans (uwo4.mono U.size)
        clear uwo4 oy0 oy1
        refine hK.out _ _ ?_ (fun hHeld => ?_)
        · (exact ⟨B_p0, B_p1⟩)
        clear hK K
        (try simp only [Act.put, List.setIfInBounds_toArray, List.set_cons_zero, List.set_cons_succ])
        refine wpAnyH_take (i := 5) (oi := { dst := some 27, op := _, type := _, pos := _, after := _, guard := _ }) (v := ?v5_4) rfl (by kernel_rfl) (by kernel_rfl) (by kernel_rfl) (fun _ _ _ h => h) (Or.inl ⟨by rfl, ?hy5_4⟩) hHeld ?rest5_4
        case hy5_4 => (intro w _; first | (go_simp; done) | (go_simp; with_reducible rfl) | (with_reducible rfl))
        (try simp only [Act.put, List.setIfInBounds_toArray, List.set_cons_zero, List.set_cons_succ])
        refine wpAnyH_take (i := 6) (oi := { dst := some 33, op := _, type := _, pos := _, after := _, guard := _ }) (v := ?v6_5) rfl (by kernel_rfl) (by kernel_rfl) (by kernel_rfl) (fun _ _ _ h => h) (Or.inl ⟨by rfl, ?hy6_5⟩) hHeld ?rest6_5
        case hy6_5 => (intro w _; first | (go_simp; done) | (go_simp; with_reducible rfl) | (with_reducible rfl))
        (try simp only [Act.put, List.setIfInBounds_toArray, List.set_cons_zero, List.set_cons_succ])
        refine wpAnyH_take (i := 7) (oi := { dst := some 34, op := _, type := _, pos := _, after := _, guard := _ }) (v := ?v7_6) rfl (by kernel_rfl) (by kernel_rfl) (by kernel_rfl) (fun _ _ _ h => h) (Or.inl ⟨by rfl, ?hy7_6⟩) hHeld ?rest7_6
        case hy7_6 => (intro w _; first | (go_simp; done) | (go_simp; with_reducible rfl) | (with_reducible rfl))
        (try simp only [Act.put, List.setIfInBounds_toArray, List.set_cons_zero, List.set_cons_succ])
        refine wpAnyH_ready (rs := [8]) (by kernel_rfl) (by simp) ?_
        refine AllReadyH.cons (o := { dst := some 6, op := _, type := _, pos := _, after := _, guard := _ }) rfl (fun K hK => ?_) ?_
        go_simp
        have uwo8 : Below wo4.heap.size wo4 (wo4.alloc (.cells #[.int .i64 0, .int .i64 0, .int .i64 0, .int .i64 0, .int .i64 0, .slice none 0 0, .slice none 0 0, .int .i64 0, .slice none 0 0, .int .i64 0, .int .i64 0] 31)) := (Below.refl _ _).alloc (Nat.le_refl _) _
        have B_r0 : Blk (wo4.alloc (.cells #[.int .i64 0, .int .i64 0, .int .i64 0, .int .i64 0, .int .i64 0, .slice none 0 0, .slice none 0 0, .int .i64 0, .slice none 0 0, .int .i64 0, .int .i64 0] 31)) wo4.heap.size 31 #[.int .i64 0, .int .i64 0, .int .i64 0, .int .i64 0, .int .i64 0, .slice none 0 0, .slice none 0 0, .int .i64 0, .slice none 0 0, .int .i64 0, .int .i64 0] := Blk.new _ _ _
        have hb_r0 : wo4.heap.size < (wo4.alloc (.cells #[.int .i64 0, .int .i64 0, .int .i64 0, .int .i64 0, .int .i64 0, .slice none 0 0, .slice none 0 0, .int .i64 0, .slice none 0 0, .int .i64 0, .int .i64 0] 31)).heap.size := by simp
        generalize (wo4.alloc (.cells #[.int .i64 0, .int .i64 0, .int .i64 0, .int .i64 0, .int .i64 0, .slice none 0 0, .slice none 0 0, .int .i64 0, .slice none 0 0, .int .i64 0, .int .i64 0] 31)) = wo8 at *
        replace B_p0 := Blk.below B_p0 uwo8
        replace B_p1 := Blk.below B_p1 uwo8
        replace or0 := or0.below uwo8
        have S_wo8 : wo4.heap.size ≤ wo8.heap.size := uwo8.size
        replace U : Below w3'.heap.size w3' wo8 := U.trans (uwo8.mono U.size)
        clear uwo8
        have hc_r0 : w3'.heap.size ≤ wo4.heap.size := by first | exact Nat.le_refl _ | omega
        generalize hbx_r0 : wo4.heap.size = bx_r0 at *
        refine hK.out _ _ ?_ (fun hHeld => ?_)
        · (exact ⟨B_p0, B_p1⟩)
        clear hK K
        (try simp only [Act.put, List.setIfInBounds_toArray, List.set_cons_zero, List.set_cons_succ])
        generalize wo8 = wT at *
        have S_T : w3'.heap.size ≤ wT.heap.size := U.size
        rotate_left 1
        exact AllReadyH.nil
        refine AllReadyH.cons (o := { dst := some 6, op := _, type := _, pos := _, after := _, guard := _ }) rfl (fun K hK => ?_) ?_
        go_simp
        have uwo8 : Below wo3.heap.size wo3 (wo3.alloc (.cells #[.int .i64 0, .int .i64 0, .int .i64 0, .int .i64 0, .int .i64 0, .slice none 0 0, .slice none 0 0, .int .i64 0, .slice none 0 0, .int .i64 0, .int .i64 0] 31)) := (Below.refl _ _).alloc (Nat.le_refl _) _
        have B_r0 : Blk (wo3.alloc (.cells #[.int .i64 0, .int .i64 0, .int .i64 0, .int .i64 0, .int .i64 0, .slice none 0 0, .slice none 0 0, .int .i64 0, .slice none 0 0, .int .i64 0, .int .i64 0] 31)) wo3.heap.size 31 #[.int .i64 0, .int .i64 0, .int .i64 0, .int .i64 0, .int .i64 0, .slice none 0 0, .slice none 0 0, .int .i64 0, .slice none 0 0, .int .i64 0, .int .i64 0] := Blk.new _ _ _
        have hb_r0 : wo3.heap.size < (wo3.alloc (.cells #[.int .i64 0, .int .i64 0, .int .i64 0, .int .i64 0, .int .i64 0, .slice none 0 0, .slice none 0 0, .int .i64 0, .slice none 0 0, .int .i64 0, .int .i64 0] 31)).heap.size := by simp
        generalize (wo3.alloc (.cells #[.int .i64 0, .int .i64 0, .int .i64 0, .int .i64 0, .int .i64 0, .slice none 0 0, .slice none 0 0, .int .i64 0, .slice none 0 0, .int .i64 0, .int .i64 0] 31)) = wo8 at *
        replace B_p0 := Blk.below B_p0 uwo8
        replace B_p1 := Blk.below B_p1 uwo8
        replace oy0 := oy0.below uwo8
        replace oy1 := oy1.below uwo8
        have S_wo8 : wo3.heap.size ≤ wo8.heap.size := uwo8.size
        replace U : Below w3'.heap.size w3' wo8 := U.trans (uwo8.mono U.size)
        clear uwo8
        have hc_r0 : w3'.heap.size ≤ wo3.heap.size := by first | exact Nat.le_refl _ | omega
        generalize hbx_r0 : wo3.heap.size = bx_r0 at *
        refine hK.out _ _ ?_ (fun hHeld => ?_)
        · (exact ⟨B_p0, B_p1⟩)
        clear hK K
        (try simp only [Act.put, List.setIfInBounds_toArray, List.set_cons_zero, List.set_cons_succ])
        refine wpAnyH_ready (rs := [4]) (by kernel_rfl) (by simp) ?_
        refine AllReadyH.cons (o := { dst := some 32, op := _, type := _, pos := _, after := _, guard := _ }) rfl (fun K hK => ?_) ?_
        go_simp
        refine (CS.out _ _ _ _ _ oy0.rd oy1.ints (LX.out.below (V_w3'.trans (U.mono V_w3'.size)))).mono ?_
        rintro e wo4 ⟨r0, F_r0, rfl, or0, uwo4⟩
        have Q_or0 := Lib.hid or0.feet
        have N_r0_0 : ∀ k ∈ F_r0, k ≠ bx_r0 := fun k hk => by have := Q_or0.out k hk; omega
        replace or0 := or0.lower (b' := w3'.heap.size) (by omega)
        replace B_p0 := Blk.below B_p0 uwo4
        replace B_p1 := Blk.below B_p1 uwo4
        replace B_r0 := Blk.below B_r0 uwo4
        have S_wo4 : wo8.heap.size ≤ wo4.heap.size := uwo4.size
        replace U : Below w3'.heap.size w3' wo4 := U.trans (uwo4.mono U.size)
        clear uwo4 oy0 oy1
        refine hK.out _ _ ?_ (fun hHeld => ?_)
        · (exact ⟨B_p0, B_p1⟩)
        clear hK K
        (try simp only [Act.put, List.setIfInBounds_toArray, List.set_cons_zero, List.set_cons_succ])
        refine wpAnyH_take (i := 5) (oi := { dst := some 27, op := _, type := _, pos := _, after := _, guard := _ }) (v := ?v5_7) rfl (by kernel_rfl) (by kernel_rfl) (by kernel_rfl) (fun _ _ _ h => h) (Or.inl ⟨by rfl, ?hy5_7⟩) hHeld ?rest5_7
        case hy5_7 => (intro w _; first | (go_simp; done) | (go_simp; with_reducible rfl) | (with_reducible rfl))
        (try simp only [Act.put, List.setIfInBounds_toArray, List.set_cons_zero, List.set_cons_succ])
        refine wpAnyH_take (i := 6) (oi := { dst := some 33, op := _, type := _, pos := _, after := _, guard := _ }) (v := ?v6_8) rfl (by kernel_rfl) (by kernel_rfl) (by kernel_rfl) (fun _ _ _ h => h) (Or.inl ⟨by rfl, ?hy6_8⟩) hHeld ?rest6_8
        case hy6_8 => (intro w _; first | (go_simp; done) | (go_simp; with_reducible rfl) | (with_reducible rfl))
        (try simp only [Act.put, List.setIfInBounds_toArray, List.set_cons_zero, List.set_cons_succ])
        refine wpAnyH_take (i := 7) (oi := { dst := some 34, op := _, type := _, pos := _, after := _, guard := _ }) (v := ?v7_9) rfl (by kernel_rfl) (by kernel_rfl) (by kernel_rfl) (fun _ _ _ h => h) (Or.inl ⟨by rfl, ?hy7_9⟩) hHeld ?rest7_9
        case hy7_9 => (intro w _; first | (go_simp; done) | (go_simp; with_reducible rfl) | (with_reducible rfl))
        (try simp only [Act.put, List.setIfInBounds_toArray, List.set_cons_zero, List.set_cons_succ])
        generalize wo4 = wT at *
        have S_T : w3'.heap.size ≤ wT.heap.size := U.size
        rotate_left 1
        exact AllReadyH.nil
        exact AllReadyH.nil
        refine AllReadyH.cons (o := { dst := some 6, op := _, type := _, pos := _, after := _, guard := _ }) rfl (fun K hK => ?_) ?_
        go_simp
        have uwo8 : Below wo1.heap.size wo1 (wo1.alloc (.cells #[.int .i64 0, .int .i64 0, .int .i64 0, .int .i64 0, .int .i64 0, .slice none 0 0, .slice none 0 0, .int .i64 0, .slice none 0 0, .int .i64 0, .int .i64 0] 31)) := (Below.refl _ _).alloc (Nat.le_refl _) _
        have B_r0 : Blk (wo1.alloc (.cells #[.int .i64 0, .int .i64 0, .int .i64 0, .int .i64 0, .int .i64 0, .slice none 0 0, .slice none 0 0, .int .i64 0, .slice none 0 0, .int .i64 0, .int .i64 0] 31)) wo1.heap.size 31 #[.int .i64 0, .int .i64 0, .int .i64 0, .int .i64 0, .int .i64 0, .slice none 0 0, .slice none 0 0, .int .i64 0, .slice none 0 0, .int .i64 0, .int .i64 0] := Blk.new _ _ _
        have hb_r0 : wo1.heap.size < (wo1.alloc (.cells #[.int .i64 0, .int .i64 0, .int .i64 0, .int .i64 0, .int .i64 0, .slice none 0 0, .slice none 0 0, .int .i64 0, .slice none 0 0, .int .i64 0, .int .i64 0] 31)).heap.size := by simp
        generalize (wo1.alloc (.cells #[.int .i64 0, .int .i64 0, .int .i64 0, .int .i64 0, .int .i64 0, .slice none 0 0, .slice none 0 0, .int .i64 0, .slice none 0 0, .int .i64 0, .int .i64 0] 31)) = wo8 at *
        replace B_p0 := Blk.below B_p0 uwo8
        replace B_p1 := Blk.below B_p1 uwo8
        replace oy0 := oy0.below uwo8
        have S_wo8 : wo1.heap.size ≤ wo8.heap.size := uwo8.size
        replace U : Below w3'.heap.size w3' wo8 := U.trans (uwo8.mono U.size)
        clear uwo8
        have hc_r0 : w3'.heap.size ≤ wo1.heap.size := by first | exact Nat.le_refl _ | omega
        generalize hbx_r0 : wo1.heap.size = bx_r0 at *
        refine hK.out _ _ ?_ (fun hHeld => ?_)
        · (exact ⟨B_p0, B_p1⟩)
        clear hK K
        (try simp only [Act.put, List.setIfInBounds_toArray, List.set_cons_zero, List.set_cons_succ])
        refine wpAnyH_ready (rs := [3]) (by kernel_rfl) (by simp) ?_
        refine AllReadyH.cons (o := { dst := some 31, op := _, type := _, pos := _, after := _, guard := _ }) rfl (fun K hK => ?_) ?_
        go_simp
        refine (toMessage_any _ _ _ _ _ l1 _ (z1.below (V_w3'.trans (U.mono V_w3'.size))) (by omega)).mono ?_
        rintro e wo3 ⟨y1, yc1, rfl, oy1, uwo3⟩
        replace B_p0 := Blk.below B_p0 uwo3
        replace B_p1 := Blk.below B_p1 uwo3
        replace B_r0 := Blk.below B_r0 uwo3
        replace oy0 := oy0.below uwo3
        have S_wo3 : wo8.heap.size ≤ wo3.heap.size := uwo3.size
        replace U : Below w3'.heap.size w3' wo3 := U.trans (uwo3.mono U.size)
        clear uwo3
        refine hK.out _ _ ?_ (fun hHeld => ?_)
        · (exact ⟨B_p0, B_p1⟩)
        clear hK K
        (try simp only [Act.put, List.setIfInBounds_toArray, List.set_cons_zero, List.set_cons_succ])
        refine wpAnyH_ready (rs := [4]) (by kernel_rfl) (by simp) ?_
        refine AllReadyH.cons (o := { dst := some 32, op := _, type := _, pos := _, after := _, guard := _ }) rfl (fun K hK => ?_) ?_
        go_simp
        refine (CS.out _ _ _ _ _ oy0.rd oy1.ints (LX.out.below (V_w3'.trans (U.mono V_w3'.size)))).mono ?_
        rintro e wo4 ⟨r0, F_r0, rfl, or0, uwo4⟩
        have Q_or0 := Lib.hid or0.feet
        have N_r0_0 : ∀ k ∈ F_r0, k ≠ bx_r0 := fun k hk => by have := Q_or0.out k hk; omega
        replace or0 := or0.lower (b' := w3'.heap.size) (by omega)
        replace B_p0 := Blk.below B_p0 uwo4
        replace B_p1 := Blk.below B_p1 uwo4
        replace B_r0 := Blk.below B_r0 uwo4
        have S_wo4 : wo3.heap.size ≤ wo4.heap.size := uwo4.size
        replace U : Below w3'.heap.size w3' wo4 := U.trans (uwo4.mono U.size)
        clear uwo4 oy0 oy1
        refine hK.out _ _ ?_ (fun hHeld => ?_)
        · (exact ⟨B_p0, B_p1⟩)
        clear hK K
        (try simp only [Act.put, List.setIfInBounds_toArray, List.set_cons_zero, List.set_cons_succ])
        refine wpAnyH_take (i := 5) (oi := { dst := some 27, op := _, type := _, pos := _, after := _, guard := _ }) (v := ?v5_10) rfl (by kernel_rfl) (by kernel_rfl) (by kernel_rfl) (fun _ _ _ h => h) (Or.inl ⟨by rfl, ?hy5_10⟩) hHeld ?rest5_10
        case hy5_10 => (intro w _; first | (go_simp; done) | (go_simp; with_reducible rfl) | (with_reducible rfl))
        (try simp only [Act.put, List.setIfInBounds_toArray, List.set_cons_zero, List.set_cons_succ])
        refine wpAnyH_take (i := 6) (oi := { dst := some 33, op := _, type := _, pos := _, after := _, guard := _ }) (v := ?v6_11) rfl (by kernel_rfl) (by kernel_rfl) (by kernel_rfl) (fun _ _ _ h => h) (Or.inl ⟨by rfl, ?hy6_11⟩) hHeld ?rest6_11
        case hy6_11 => (intro w _; first | (go_simp; done) | (go_simp; with_reducible rfl) | (with_reducible rfl))
        (try simp only [Act.put, List.setIfInBounds_toArray, List.set_cons_zero, List.set_cons_succ])
        refine wpAnyH_take (i := 7) (oi := { dst := some 34, op := _, type := _, pos := _, after := _, guard := _ }) (v := ?v7_12) rfl (by kernel_rfl) (by kernel_rfl) (by kernel_rfl) (fun _ _ _ h => h) (Or.inl ⟨by rfl, ?hy7_12⟩) hHeld ?rest7_12
        case hy7_12 => (intro w _; first | (go_simp; done) | (go_simp; with_reducible rfl) | (with_reducible rfl))
        (try simp only [Act.put, List.setIfInBounds_toArray, List.set_cons_zero, List.set_cons_succ])
        generalize wo4 = wT at *
        have S_T : w3'.heap.size ≤ wT.heap.size := U.size
        rotate_left 1
        exact AllReadyH.nil
        exact AllReadyH.nil
        exact AllReadyH.nil
        refine AllReadyH.cons (o := { dst := some 6, op := _, type := _, pos := _, after := _, guard := _ }) rfl (fun K hK => ?_) ?_
        go_simp
        have uwo8 : Below w3'.drew.heap.size w3'.drew ((w3'.alloc (.cells #[.int .i64 0, .int .i64 0, .int .i64 0, .int .i64 0, .int .i64 0, .slice none 0 0, .slice none 0 0, .int .i64 0, .slice none 0 0, .int .i64 0, .int .i64 0] 31)).drew) := (let h := (((Below.refl w3'.heap.size w3').alloc (Nat.le_refl _) (.cells #[.int .i64 0, .int .i64 0, .int .i64 0, .int .i64 0, .int .i64 0, .slice none 0 0, .slice none 0 0, .int .i64 0, .slice none 0 0, .int .i64 0, .int .i64 0] 31)).drew); ⟨h.os, h.tape, h.output, h.size, h.block⟩)
        have B_r0 : Blk ((w3'.alloc (.cells #[.int .i64 0, .int .i64 0, .int .i64 0, .int .i64 0, .int .i64 0, .slice none 0 0, .slice none 0 0, .int .i64 0, .slice none 0 0, .int .i64 0, .int .i64 0] 31)).drew) w3'.heap.size 31 #[.int .i64 0, .int .i64 0, .int .i64 0, .int .i64 0, .int .i64 0, .slice none 0 0, .slice none 0 0, .int .i64 0, .slice none 0 0, .int .i64 0, .int .i64 0] := (Blk.new w3' 31 #[.int .i64 0, .int .i64 0, .int .i64 0, .int .i64 0, .int .i64 0, .slice none 0 0, .slice none 0 0, .int .i64 0, .slice none 0 0, .int .i64 0, .int .i64 0]).drew
        have hb_r0 : w3'.heap.size < ((w3'.alloc (.cells #[.int .i64 0, .int .i64 0, .int .i64 0, .int .i64 0, .int .i64 0, .slice none 0 0, .slice none 0 0, .int .i64 0, .slice none 0 0, .int .i64 0, .int .i64 0] 31)).drew).heap.size := by simp
        generalize ((w3'.alloc (.cells #[.int .i64 0, .int .i64 0, .int .i64 0, .int .i64 0, .int .i64 0, .slice none 0 0, .slice none 0 0, .int .i64 0, .slice none 0 0, .int .i64 0, .int .i64 0] 31)).drew) = wo8 at *
        replace B_p0 := Blk.below B_p0 uwo8
        replace B_p1 := Blk.below B_p1 uwo8
        have S_wo8 : w3'.drew.heap.size ≤ wo8.heap.size := uwo8.size
        replace U : Below w3'.heap.size w3' wo8 := U.trans (uwo8.mono U.size)
        clear uwo8
        obtain ⟨bx_r0, hbx_r0⟩ : ∃ n, n = w3'.heap.size := ⟨_, rfl⟩
        have hc_r0 : w3'.heap.size ≤ bx_r0 := Nat.le_of_eq hbx_r0.symm
        rw [← hbx_r0] at B_r0 hb_r0
        rw [← hbx_r0]
        clear hbx_r0
        refine hK.out _ _ ?_ (fun hHeld => ?_)
        · (exact ⟨B_p0, B_p1⟩)
        clear hK K
        (try simp only [Act.put, List.setIfInBounds_toArray, List.set_cons_zero, List.set_cons_succ])
        refine wpAnyH_ready (rs := [1]) (by kernel_rfl) (by simp) ?_
        refine AllReadyH.cons (o := { dst := some 29, op := _, type := _, pos := _, after := _, guard := _ }) rfl (fun K hK => ?_) ?_
        go_simp
        refine (toPlayer_o a0 p0 _ (z0.below (V_w3'.trans (U.mono V_w3'.size))) ht0).mono ?_
        rintro e wo1 ⟨y0, F_y0, rfl, oy0, uwo1⟩
        replace B_p0 := Blk.below B_p0 uwo1
        replace B_p1 := Blk.below B_p1 uwo1
        replace B_r0 := Blk.below B_r0 uwo1
        have S_wo1 : wo8.heap.size ≤ wo1.heap.size := uwo1.size
        replace U : Below w3'.heap.size w3' wo1 := U.trans (uwo1.mono U.size)
        clear uwo1
        refine hK.out _ _ ?_ (fun hHeld => ?_)
        · (exact ⟨B_p0, B_p1⟩)
        clear hK K
        (try simp only [Act.put, List.setIfInBounds_toArray, List.set_cons_zero, List.set_cons_succ])
        refine wpAnyH_ready (rs := [3]) (by kernel_rfl) (by simp) ?_
        refine AllReadyH.cons (o := { dst := some 31, op := _, type := _, pos := _, after := _, guard := _ }) rfl (fun K hK => ?_) ?_
        go_simp
        refine (toMessage_any _ _ _ _ _ l1 _ (z1.below (V_w3'.trans (U.mono V_w3'.size))) (by omega)).mono ?_
        rintro e wo3 ⟨y1, yc1, rfl, oy1, uwo3⟩
        replace B_p0 := Blk.below B_p0 uwo3
        replace B_p1 := Blk.below B_p1 uwo3
        replace B_r0 := Blk.below B_r0 uwo3
        replace oy0 := oy0.below uwo3
        have S_wo3 : wo1.heap.size ≤ wo3.heap.size := uwo3.size
        replace U : Below w3'.heap.size w3' wo3 := U.trans (uwo3.mono U.size)
        clear uwo3
        refine hK.out _ _ ?_ (fun hHeld => ?_)
        · (exact ⟨B_p0, B_p1⟩)
        clear hK K
        (try simp only [Act.put, List.setIfInBounds_toArray, List.set_cons_zero, List.set_cons_succ])
        refine wpAnyH_ready (rs := [4]) (by kernel_rfl) (by simp) ?_
        refine AllReadyH.cons (o := { dst := some 32, op := _, type := _, pos := _, after := _, guard := _ }) rfl (fun K hK => ?_) ?_
        go_simp
        refine (CS.out _ _ _ _ _ oy0.rd oy1.ints (LX.out.below (V_w3'.trans (U.mono V_w3'.size)))).mono ?_
        rintro e wo4 ⟨r0, F_r0, rfl, or0, uwo4⟩
        have Q_or0 := Lib.hid or0.feet
        have N_r0_0 : ∀ k ∈ F_r0, k ≠ bx_r0 := fun k hk => by have := Q_or0.out k hk; omega
        replace or0 := or0.lower (b' := w3'.heap.size) (by omega)
        replace B_p0 := Blk.below B_p0 uwo4
        replace B_p1 := Blk.below B_p1 uwo4
        replace B_r0 := Blk.below B_r0 uwo4
        have S_wo4 : wo3.heap.size ≤ wo4.heap.size := uwo4.size
        replace U : Below w3'.heap.size w3' wo4 := U.trans (uwo4.mono U.size)
        clear uwo4 oy0 oy1
        refine hK.out _ _ ?_ (fun hHeld => ?_)
        · (exact ⟨B_p0, B_p1⟩)
        clear hK K
        (try simp only [Act.put, List.setIfInBounds_toArray, List.set_cons_zero, List.set_cons_succ])
        refine wpAnyH_take (i := 5) (oi := { dst := some 27, op := _, type := _, pos := _, after := _, guard := _ }) (v := ?v5_13) rfl (by kernel_rfl) (by kernel_rfl) (by kernel_rfl) (fun _ _ _ h => h) (Or.inl ⟨by rfl, ?hy5_13⟩) hHeld ?rest5_13
        case hy5_13 => (intro w _; first | (go_simp; done) | (go_simp; with_reducible rfl) | (with_reducible rfl))
        (try simp only [Act.put, List.setIfInBounds_toArray, List.set_cons_zero, List.set_cons_succ])
        refine wpAnyH_take (i := 6) (oi := { dst := some 33, op := _, type := _, pos := _, after := _, guard := _ }) (v := ?v6_14) rfl (by kernel_rfl) (by kernel_rfl) (by kernel_rfl) (fun _ _ _ h => h) (Or.inl ⟨by rfl, ?hy6_14⟩) hHeld ?rest6_14
        case hy6_14 => (intro w _; first | (go_simp; done) | (go_simp; with_reducible rfl) | (with_reducible rfl))
        (try simp only [Act.put, List.setIfInBounds_toArray, List.set_cons_zero, List.set_cons_succ])
        refine wpAnyH_take (i := 7) (oi := { dst := some 34, op := _, type := _, pos := _, after := _, guard := _ }) (v := ?v7_15) rfl (by kernel_rfl) (by kernel_rfl) (by kernel_rfl) (fun _ _ _ h => h) (Or.inl ⟨by rfl, ?hy7_15⟩) hHeld ?rest7_15
        case hy7_15 => (intro w _; first | (go_simp; done) | (go_simp; with_reducible rfl) | (with_reducible rfl))
        (try simp only [Act.put, List.setIfInBounds_toArray, List.set_cons_zero, List.set_cons_succ])
        generalize wo4 = wT at *
        have S_T : w3'.heap.size ≤ wT.heap.size := U.size
        rotate_left 1
        exact AllReadyH.nil
        exact AllReadyH.nil
        exact AllReadyH.nil
        exact AllReadyH.nil
        all_goals
          have N_r0_0 : ∀ k ∈ F_r0, k ≠ bx_r0 := by first | assumption | exact (fun k hk => by have := Q_or0.out k hk; omega)
          refine wpAnyH_ready (rs := [9]) (by kernel_rfl) (by simp) ?_
          refine AllReadyH.cons (o := { dst := none, op := _, type := _, pos := _, after := _, guard := _ }) rfl (fun K hK => ?_) ?_
          have c9_0 := B_r0.cell 0
          have c9_1 := B_r0.cell 1
          have c9_2 := B_r0.cell 2
          have c9_3 := B_r0.cell 3
          have c9_4 := B_r0.cell 4
          have c9_5 := B_r0.cell 5
          have c9_6 := B_r0.cell 6
          have c9_7 := B_r0.cell 7
          have c9_8 := B_r0.cell 8
          have c9_9 := B_r0.cell 9
          have c9_10 := B_r0.cell 10
          have f9_0 := B_r0.frozen 0
          have f9_1 := B_r0.frozen 1
          have f9_2 := B_r0.frozen 2
          have f9_3 := B_r0.frozen 3
          have f9_4 := B_r0.frozen 4
          have f9_5 := B_r0.frozen 5
          have f9_6 := B_r0.frozen 6
          have f9_7 := B_r0.frozen 7
          have f9_8 := B_r0.frozen 8
          have f9_9 := B_r0.frozen 9
          have f9_10 := B_r0.frozen 10
          go_simp
          have G : Only [bx_r0] wT (((((((((((wT.setCell ⟨bx_r0, 0, none⟩ (.int .i64 d0_0.P)).setCell ⟨bx_r0, 1, none⟩ (.int .i64 d0_0.party)).setCell ⟨bx_r0, 2, none⟩ (.int .i64 d0_0.input)).setCell ⟨bx_r0, 3, none⟩ (.int .i64 d0_0.mask)).setCell ⟨bx_r0, 4, none⟩ (.int .i64 d0_0.delta)).setCell ⟨bx_r0, 5, none⟩ (.slice r0.sa r0.sn r0.sc)).setCell ⟨bx_r0, 6, none⟩ (.slice r0.ka r0.kn r0.kc)).setCell ⟨bx_r0, 7, none⟩ (.int .i64 d0_0.step)).setCell ⟨bx_r0, 8, none⟩ (.slice r0.ha r0.hn r0.hc)).setCell ⟨bx_r0, 9, none⟩ (.int .i64 d0_0.status)).setCell ⟨bx_r0, 10, none⟩ (.int .i64 d0_0.out)) := ((((((((((((Only.refl [bx_r0] wT).setCell ⟨bx_r0, 0, none⟩ _ (by simp)).setCell ⟨bx_r0, 1, none⟩ _ (by simp)).setCell ⟨bx_r0, 2, none⟩ _ (by simp)).setCell ⟨bx_r0, 3, none⟩ _ (by simp)).setCell ⟨bx_r0, 4, none⟩ _ (by simp)).setCell ⟨bx_r0, 5, none⟩ _ (by simp)).setCell ⟨bx_r0, 6, none⟩ _ (by simp)).setCell ⟨bx_r0, 7, none⟩ _ (by simp)).setCell ⟨bx_r0, 8, none⟩ _ (by simp)).setCell ⟨bx_r0, 9, none⟩ _ (by simp)).setCell ⟨bx_r0, 10, none⟩ _ (by simp))
          replace B_r0 : Blk (wT.setCell ⟨bx_r0, 0, none⟩ (.int .i64 d0_0.P)) bx_r0 31 #[.int .i64 d0_0.P, .int .i64 0, .int .i64 0, .int .i64 0, .int .i64 0, .slice none 0 0, .slice none 0 0, .int .i64 0, .slice none 0 0, .int .i64 0, .int .i64 0] := B_r0.set_ 0 (.int .i64 d0_0.P)
          replace B_r0 : Blk ((wT.setCell ⟨bx_r0, 0, none⟩ (.int .i64 d0_0.P)).setCell ⟨bx_r0, 1, none⟩ (.int .i64 d0_0.party)) bx_r0 31 #[.int .i64 d0_0.P, .int .i64 d0_0.party, .int .i64 0, .int .i64 0, .int .i64 0, .slice none 0 0, .slice none 0 0, .int .i64 0, .slice none 0 0, .int .i64 0, .int .i64 0] := B_r0.set_ 1 (.int .i64 d0_0.party)
          replace B_r0 : Blk (((wT.setCell ⟨bx_r0, 0, none⟩ (.int .i64 d0_0.P)).setCell ⟨bx_r0, 1, none⟩ (.int .i64 d0_0.party)).setCell ⟨bx_r0, 2, none⟩ (.int .i64 d0_0.input)) bx_r0 31 #[.int .i64 d0_0.P, .int .i64 d0_0.party, .int .i64 d0_0.input, .int .i64 0, .int .i64 0, .slice none 0 0, .slice none 0 0, .int .i64 0, .slice none 0 0, .int .i64 0, .int .i64 0] := B_r0.set_ 2 (.int .i64 d0_0.input)
          replace B_r0 : Blk ((((wT.setCell ⟨bx_r0, 0, none⟩ (.int .i64 d0_0.P)).setCell ⟨bx_r0, 1, none⟩ (.int .i64 d0_0.party)).setCell ⟨bx_r0, 2, none⟩ (.int .i64 d0_0.input)).setCell ⟨bx_r0, 3, none⟩ (.int .i64 d0_0.mask)) bx_r0 31 #[.int .i64 d0_0.P, .int .i64 d0_0.party, .int .i64 d0_0.input, .int .i64 d0_0.mask, .int .i64 0, .slice none 0 0, .slice none 0 0, .int .i64 0, .slice none 0 0, .int .i64 0, .int .i64 0] := B_r0.set_ 3 (.int .i64 d0_0.mask)
          replace B_r0 : Blk (((((wT.setCell ⟨bx_r0, 0, none⟩ (.int .i64 d0_0.P)).setCell ⟨bx_r0, 1, none⟩ (.int .i64 d0_0.party)).setCell ⟨bx_r0, 2, none⟩ (.int .i64 d0_0.input)).setCell ⟨bx_r0, 3, none⟩ (.int .i64 d0_0.mask)).setCell ⟨bx_r0, 4, none⟩ (.int .i64 d0_0.delta)) bx_r0 31 #[.int .i64 d0_0.P, .int .i64 d0_0.party, .int .i64 d0_0.input, .int .i64 d0_0.mask, .int .i64 d0_0.delta, .slice none 0 0, .slice none 0 0, .int .i64 0, .slice none 0 0, .int .i64 0, .int .i64 0] := B_r0.set_ 4 (.int .i64 d0_0.delta)
          replace B_r0 : Blk ((((((wT.setCell ⟨bx_r0, 0, none⟩ (.int .i64 d0_0.P)).setCell ⟨bx_r0, 1, none⟩ (.int .i64 d0_0.party)).setCell ⟨bx_r0, 2, none⟩ (.int .i64 d0_0.input)).setCell ⟨bx_r0, 3, none⟩ (.int .i64 d0_0.mask)).setCell ⟨bx_r0, 4, none⟩ (.int .i64 d0_0.delta)).setCell ⟨bx_r0, 5, none⟩ (.slice r0.sa r0.sn r0.sc)) bx_r0 31 #[.int .i64 d0_0.P, .int .i64 d0_0.party, .int .i64 d0_0.input, .int .i64 d0_0.mask, .int .i64 d0_0.delta, .slice r0.sa r0.sn r0.sc, .slice none 0 0, .int .i64 0, .slice none 0 0, .int .i64 0, .int .i64 0] := B_r0.set_ 5 (.slice r0.sa r0.sn r0.sc)
          replace B_r0 : Blk (((((((wT.setCell ⟨bx_r0, 0, none⟩ (.int .i64 d0_0.P)).setCell ⟨bx_r0, 1, none⟩ (.int .i64 d0_0.party)).setCell ⟨bx_r0, 2, none⟩ (.int .i64 d0_0.input)).setCell ⟨bx_r0, 3, none⟩ (.int .i64 d0_0.mask)).setCell ⟨bx_r0, 4, none⟩ (.int .i64 d0_0.delta)).setCell ⟨bx_r0, 5, none⟩ (.slice r0.sa r0.sn r0.sc)).setCell ⟨bx_r0, 6, none⟩ (.slice r0.ka r0.kn r0.kc)) bx_r0 31 #[.int .i64 d0_0.P, .int .i64 d0_0.party, .int .i64 d0_0.input, .int .i64 d0_0.mask, .int .i64 d0_0.delta, .slice r0.sa r0.sn r0.sc, .slice r0.ka r0.kn r0.kc, .int .i64 0, .slice none 0 0, .int .i64 0, .int .i64 0] := B_r0.set_ 6 (.slice r0.ka r0.kn r0.kc)
          replace B_r0 : Blk ((((((((wT.setCell ⟨bx_r0, 0, none⟩ (.int .i64 d0_0.P)).setCell ⟨bx_r0, 1, none⟩ (.int .i64 d0_0.party)).setCell ⟨bx_r0, 2, none⟩ (.int .i64 d0_0.input)).setCell ⟨bx_r0, 3, none⟩ (.int .i64 d0_0.mask)).setCell ⟨bx_r0, 4, none⟩ (.int .i64 d0_0.delta)).setCell ⟨bx_r0, 5, none⟩ (.slice r0.sa r0.sn r0.sc)).setCell ⟨bx_r0, 6, none⟩ (.slice r0.ka r0.kn r0.kc)).setCell ⟨bx_r0, 7, none⟩ (.int .i64 d0_0.step)) bx_r0 31 #[.int .i64 d0_0.P, .int .i64 d0_0.party, .int .i64 d0_0.input, .int .i64 d0_0.mask, .int .i64 d0_0.delta, .slice r0.sa r0.sn r0.sc, .slice r0.ka r0.kn r0.kc, .int .i64 d0_0.step, .slice none 0 0, .int .i64 0, .int .i64 0] := B_r0.set_ 7 (.int .i64 d0_0.step)
          replace B_r0 : Blk (((((((((wT.setCell ⟨bx_r0, 0, none⟩ (.int .i64 d0_0.P)).setCell ⟨bx_r0, 1, none⟩ (.int .i64 d0_0.party)).setCell ⟨bx_r0, 2, none⟩ (.int .i64 d0_0.input)).setCell ⟨bx_r0, 3, none⟩ (.int .i64 d0_0.mask)).setCell ⟨bx_r0, 4, none⟩ (.int .i64 d0_0.delta)).setCell ⟨bx_r0, 5, none⟩ (.slice r0.sa r0.sn r0.sc)).setCell ⟨bx_r0, 6, none⟩ (.slice r0.ka r0.kn r0.kc)).setCell ⟨bx_r0, 7, none⟩ (.int .i64 d0_0.step)).setCell ⟨bx_r0, 8, none⟩ (.slice r0.ha r0.hn r0.hc)) bx_r0 31 #[.int .i64 d0_0.P, .int .i64 d0_0.party, .int .i64 d0_0.input, .int .i64 d0_0.mask, .int .i64 d0_0.delta, .slice r0.sa r0.sn r0.sc, .slice r0.ka r0.kn r0.kc, .int .i64 d0_0.step, .slice r0.ha r0.hn r0.hc, .int .i64 0, .int .i64 0] := B_r0.set_ 8 (.slice r0.ha r0.hn r0.hc)
          replace B_r0 : Blk ((((((((((wT.setCell ⟨bx_r0, 0, none⟩ (.int .i64 d0_0.P)).setCell ⟨bx_r0, 1, none⟩ (.int .i64 d0_0.party)).setCell ⟨bx_r0, 2, none⟩ (.int .i64 d0_0.input)).setCell ⟨bx_r0, 3, none⟩ (.int .i64 d0_0.mask)).setCell ⟨bx_r0, 4, none⟩ (.int .i64 d0_0.delta)).setCell ⟨bx_r0, 5, none⟩ (.slice r0.sa r0.sn r0.sc)).setCell ⟨bx_r0, 6, none⟩ (.slice r0.ka r0.kn r0.kc)).setCell ⟨bx_r0, 7, none⟩ (.int .i64 d0_0.step)).setCell ⟨bx_r0, 8, none⟩ (.slice r0.ha r0.hn r0.hc)).setCell ⟨bx_r0, 9, none⟩ (.int .i64 d0_0.status)) bx_r0 31 #[.int .i64 d0_0.P, .int .i64 d0_0.party, .int .i64 d0_0.input, .int .i64 d0_0.mask, .int .i64 d0_0.delta, .slice r0.sa r0.sn r0.sc, .slice r0.ka r0.kn r0.kc, .int .i64 d0_0.step, .slice r0.ha r0.hn r0.hc, .int .i64 d0_0.status, .int .i64 0] := B_r0.set_ 9 (.int .i64 d0_0.status)
          replace B_r0 : Blk (((((((((((wT.setCell ⟨bx_r0, 0, none⟩ (.int .i64 d0_0.P)).setCell ⟨bx_r0, 1, none⟩ (.int .i64 d0_0.party)).setCell ⟨bx_r0, 2, none⟩ (.int .i64 d0_0.input)).setCell ⟨bx_r0, 3, none⟩ (.int .i64 d0_0.mask)).setCell ⟨bx_r0, 4, none⟩ (.int .i64 d0_0.delta)).setCell ⟨bx_r0, 5, none⟩ (.slice r0.sa r0.sn r0.sc)).setCell ⟨bx_r0, 6, none⟩ (.slice r0.ka r0.kn r0.kc)).setCell ⟨bx_r0, 7, none⟩ (.int .i64 d0_0.step)).setCell ⟨bx_r0, 8, none⟩ (.slice r0.ha r0.hn r0.hc)).setCell ⟨bx_r0, 9, none⟩ (.int .i64 d0_0.status)).setCell ⟨bx_r0, 10, none⟩ (.int .i64 d0_0.out)) bx_r0 31 #[.int .i64 d0_0.P, .int .i64 d0_0.party, .int .i64 d0_0.input, .int .i64 d0_0.mask, .int .i64 d0_0.delta, .slice r0.sa r0.sn r0.sc, .slice r0.ka r0.kn r0.kc, .int .i64 d0_0.step, .slice r0.ha r0.hn r0.hc, .int .i64 d0_0.status, .int .i64 d0_0.out] := B_r0.set_ 10 (.int .i64 d0_0.out)
          clear c9_0 f9_0 c9_1 f9_1 c9_2 f9_2 c9_3 f9_3 c9_4 f9_4 c9_5 f9_5 c9_6 f9_6 c9_7 f9_7 c9_8 f9_8 c9_9 f9_9 c9_10 f9_10
          replace B_p0 := B_p0.only G (by simp; omega)
          replace B_p1 := B_p1.only G (by simp; omega)
          replace or0 := or0.only G (fun k hk hk' => by have := N_r0_0 k hk; simp at hk'; omega)
          replace U : Below w3'.heap.size w3' (((((((((((wT.setCell ⟨bx_r0, 0, none⟩ (.int .i64 d0_0.P)).setCell ⟨bx_r0, 1, none⟩ (.int .i64 d0_0.party)).setCell ⟨bx_r0, 2, none⟩ (.int .i64 d0_0.input)).setCell ⟨bx_r0, 3, none⟩ (.int .i64 d0_0.mask)).setCell ⟨bx_r0, 4, none⟩ (.int .i64 d0_0.delta)).setCell ⟨bx_r0, 5, none⟩ (.slice r0.sa r0.sn r0.sc)).setCell ⟨bx_r0, 6, none⟩ (.slice r0.ka r0.kn r0.kc)).setCell ⟨bx_r0, 7, none⟩ (.int .i64 d0_0.step)).setCell ⟨bx_r0, 8, none⟩ (.slice r0.ha r0.hn r0.hc)).setCell ⟨bx_r0, 9, none⟩ (.int .i64 d0_0.status)).setCell ⟨bx_r0, 10, none⟩ (.int .i64 d0_0.out)) := U.trans (G.below (by omega) (fun k hk => by simp at hk; omega))
          have SG9 : wT.heap.size ≤ (((((((((((wT.setCell ⟨bx_r0, 0, none⟩ (.int .i64 d0_0.P)).setCell ⟨bx_r0, 1, none⟩ (.int .i64 d0_0.party)).setCell ⟨bx_r0, 2, none⟩ (.int .i64 d0_0.input)).setCell ⟨bx_r0, 3, none⟩ (.int .i64 d0_0.mask)).setCell ⟨bx_r0, 4, none⟩ (.int .i64 d0_0.delta)).setCell ⟨bx_r0, 5, none⟩ (.slice r0.sa r0.sn r0.sc)).setCell ⟨bx_r0, 6, none⟩ (.slice r0.ka r0.kn r0.kc)).setCell ⟨bx_r0, 7, none⟩ (.int .i64 d0_0.step)).setCell ⟨bx_r0, 8, none⟩ (.slice r0.ha r0.hn r0.hc)).setCell ⟨bx_r0, 9, none⟩ (.int .i64 d0_0.status)).setCell ⟨bx_r0, 10, none⟩ (.int .i64 d0_0.out)).heap.size := G.size
          clear G
          generalize (((((((((((wT.setCell ⟨bx_r0, 0, none⟩ (.int .i64 d0_0.P)).setCell ⟨bx_r0, 1, none⟩ (.int .i64 d0_0.party)).setCell ⟨bx_r0, 2, none⟩ (.int .i64 d0_0.input)).setCell ⟨bx_r0, 3, none⟩ (.int .i64 d0_0.mask)).setCell ⟨bx_r0, 4, none⟩ (.int .i64 d0_0.delta)).setCell ⟨bx_r0, 5, none⟩ (.slice r0.sa r0.sn r0.sc)).setCell ⟨bx_r0, 6, none⟩ (.slice r0.ka r0.kn r0.kc)).setCell ⟨bx_r0, 7, none⟩ (.int .i64 d0_0.step)).setCell ⟨bx_r0, 8, none⟩ (.slice r0.ha r0.hn r0.hc)).setCell ⟨bx_r0, 9, none⟩ (.int .i64 d0_0.status)).setCell ⟨bx_r0, 10, none⟩ (.int .i64 d0_0.out)) = wS9 at *
          refine hK.out _ _ ?_ (fun hHeld => ?_)
          · (exact ⟨B_p0, B_p1⟩)
          clear hK K
          (try simp only [Act.put, List.setIfInBounds_toArray, List.set_cons_zero, List.set_cons_succ])
          refine wpAnyH_take (i := 10) (oi := { dst := some 7, op := _, type := _, pos := _, after := _, guard := _ }) (v := .bool d1_0) rfl (by kernel_rfl) (by kernel_rfl) (by kernel_rfl) (fun _ _ _ h => h) (Or.inl ⟨by rfl, by intro w hSw; obtain ⟨qS0, qS1⟩ := hSw; have cS0_0 := qS0.cell 0; have cS0_1 := qS0.cell 1; have cS0_2 := qS0.cell 2; have cS0_3 := qS0.cell 3; have cS0_4 := qS0.cell 4; have cS0_5 := qS0.cell 5; have cS0_6 := qS0.cell 6; have cS0_7 := qS0.cell 7; have cS0_8 := qS0.cell 8; have cS0_9 := qS0.cell 9; have cS0_10 := qS0.cell 10; have cS1_0 := qS1.cell 0; have cS1_1 := qS1.cell 1; have cS1_2 := qS1.cell 2; first | (go_simp; done) | (go_simp; with_reducible rfl) | (with_reducible rfl)⟩) hHeld ?_
          (try simp only [Act.put, List.setIfInBounds_toArray, List.set_cons_zero, List.set_cons_succ])
          refine wpAnyH_done (by kernel_rfl) ?_ _
          refine NoPanic.normal ?_
          rotate_left 1
          exact AllReadyH.nil
          try go_wp2_with fail
          go_meet
          exact ⟨r0, F_r0, bx_r0, rfl, rfl, or0, fun k hk => ⟨or0.feet k hk, N_r0_0 k hk⟩, B_r0, ⟨by omega, by omega⟩, U⟩
      obtain ⟨r0, F_r0, bx_r0, rfl, rfl, or0, Q_or0, B_r0, hb_r0, u_all⟩ := hcut
      generalize wc = w4' at *
      replace B_p0 := B_p0.below u_all
      replace B_p1 := B_p1.below u_all
      have V_w4' := V_w3'.trans (u_all.mono (V_w3').size)
      have S_w4' := u_all.size
      clear u_all V_w3'
      replace Q_or0 := Lib.hid Q_or0
      have e_p0_0 : w4'.cell? ⟨w.heap.size, 0, none⟩ = some (.int .i64 a0.P) := B_p0.cell 0
      have e_p0_1 : w4'.cell? ⟨w.heap.size, 1, none⟩ = some (.int .i64 a0.party) := B_p0.cell 1
      have e_p0_2 : w4'.cell? ⟨w.heap.size, 2, none⟩ = some (.int .i64 a0.input) := B_p0.cell 2
      have e_p0_3 : w4'.cell? ⟨w.heap.size, 3, none⟩ = some (.int .i64 a0.mask) := B_p0.cell 3
      have e_p0_4 : w4'.cell? ⟨w.heap.size, 4, none⟩ = some (.int .i64 a0.delta) := B_p0.cell 4
      have e_p0_5 : w4'.cell? ⟨w.heap.size, 5, none⟩ = some (.slice p0.sa p0.sn p0.sc) := B_p0.cell 5
      have e_p0_6 : w4'.cell? ⟨w.heap.size, 6, none⟩ = some (.slice p0.ka p0.kn p0.kc) := B_p0.cell 6
      have e_p0_7 : w4'.cell? ⟨w.heap.size, 7, none⟩ = some (.int .i64 a0.step) := B_p0.cell 7
      have e_p0_8 : w4'.cell? ⟨w.heap.size, 8, none⟩ = some (.slice p0.ha p0.hn p0.hc) := B_p0.cell 8
      have e_p0_9 : w4'.cell? ⟨w.heap.size, 9, none⟩ = some (.int .i64 a0.status) := B_p0.cell 9
      have e_p0_10 : w4'.cell? ⟨w.heap.size, 10, none⟩ = some (.int .i64 a0.out) := B_p0.cell 10
      go_wp2_with fail
      clear e_p0_0 e_p0_1 e_p0_2 e_p0_3 e_p0_4 e_p0_5 e_p0_6 e_p0_7 e_p0_8 e_p0_9 e_p0_10
      refine (toPlayer_o a0 p0 _ (z0.below V_w4') ht0).mono ?_
      rintro e w5' ⟨x0, F_x0, rfl, ox0, u_w5'⟩
      replace B_p0 := B_p0.below u_w5'
      replace B_p1 := B_p1.below u_w5'
      replace B_r0 := B_r0.below u_w5'
      replace or0 := or0.below u_w5'
      have V_w5' := V_w4'.trans (u_w5'.mono (V_w4').size)
      have S_w5' := u_w5'.size
      clear u_w5' V_w4'
      have Q_ox0 := Lib.hid ox0.feet
      have e_p1_0 : w5'.cell? ⟨w.heap.size + 1, 0, none⟩ = some (.int .i64 f1) := B_p1.cell 0
      have e_p1_0_0 : (w5'.alloc (.cells #[.int .i64 a0.P, .int .i64 a0.party, .int .i64 a0.input, .int .i64 a0.mask, .int .i64 a0.delta, .slice x0.sa x0.sn x0.sc, .slice x0.ka x0.kn x0.kc, .int .i64 a0.step, .slice x0.ha x0.hn x0.hc, .int .i64 a0.status, .int .i64 a0.out] 31)).cell? ⟨w.heap.size + 1, 0, none⟩ = some (.int .i64 f1) := keepA _ e_p1_0
      have e_p1_1 : w5'.cell? ⟨w.heap.size + 1, 1, none⟩ = some (.int .i64 s1) := B_p1.cell 1
      have e_p1_1_0 : (w5'.alloc (.cells #[.int .i64 a0.P, .int .i64 a0.party, .int .i64 a0.input, .int .i64 a0.mask, .int .i64 a0.delta, .slice x0.sa x0.sn x0.sc, .slice x0.ka x0.kn x0.kc, .int .i64 a0.step, .slice x0.ha x0.hn x0.hc, .int .i64 a0.status, .int .i64 a0.out] 31)).cell? ⟨w.heap.size + 1, 1, none⟩ = some (.int .i64 s1) := keepA _ e_p1_1
      have e_p1_2 : w5'.cell? ⟨w.heap.size + 1, 2, none⟩ = some (.slice p1 pn1 pc1) := B_p1.cell 2
      have e_p1_2_0 : (w5'.alloc (.cells #[.int .i64 a0.P, .int .i64 a0.party, .int .i64 a0.input, .int .i64 a0.mask, .int .i64 a0.delta, .slice x0.sa x0.sn x0.sc, .slice x0.ka x0.kn x0.kc, .int .i64 a0.step, .slice x0.ha x0.hn x0.hc, .int .i64 a0.status, .int .i64 a0.out] 31)).cell? ⟨w.heap.size + 1, 2, none⟩ = some (.slice p1 pn1 pc1) := keepA _ e_p1_2
      go_wp2_with fail
      clear e_p1_0 e_p1_0_0 e_p1_1 e_p1_1_0 e_p1_2 e_p1_2_0
      have V_w6' : Below w.heap.size w (w5'.alloc (.cells #[.int .i64 a0.P, .int .i64 a0.party, .int .i64 a0.input, .int .i64 a0.mask, .int .i64 a0.delta, .slice x0.sa x0.sn x0.sc, .slice x0.ka x0.kn x0.kc, .int .i64 a0.step, .slice x0.ha x0.hn x0.hc, .int .i64 a0.status, .int .i64 a0.out] 31)) := ((V_w5').alloc (by have := (V_w5').size; first | exact this | (simp; omega) | simp) _)
      replace B_p0 := B_p0.alloc (.cells #[.int .i64 a0.P, .int .i64 a0.party, .int .i64 a0.input, .int .i64 a0.mask, .int .i64 a0.delta, .slice x0.sa x0.sn x0.sc, .slice x0.ka x0.kn x0.kc, .int .i64 a0.step, .slice x0.ha x0.hn x0.hc, .int .i64 a0.status, .int .i64 a0.out] 31)
      replace B_p1 := B_p1.alloc (.cells #[.int .i64 a0.P, .int .i64 a0.party, .int .i64 a0.input, .int .i64 a0.mask, .int .i64 a0.delta, .slice x0.sa x0.sn x0.sc, .slice x0.ka x0.kn x0.kc, .int .i64 a0.step, .slice x0.ha x0.hn x0.hc, .int .i64 a0.status, .int .i64 a0.out] 31)
      replace B_r0 := B_r0.alloc (.cells #[.int .i64 a0.P, .int .i64 a0.party, .int .i64 a0.input, .int .i64 a0.mask, .int .i64 a0.delta, .slice x0.sa x0.sn x0.sc, .slice x0.ka x0.kn x0.kc, .int .i64 a0.step, .slice x0.ha x0.hn x0.hc, .int .i64 a0.status, .int .i64 a0.out] 31)
      replace or0 := or0.alloc (.cells #[.int .i64 a0.P, .int .i64 a0.party, .int .i64 a0.input, .int .i64 a0.mask, .int .i64 a0.delta, .slice x0.sa x0.sn x0.sc, .slice x0.ka x0.kn x0.kc, .int .i64 a0.step, .slice x0.ha x0.hn x0.hc, .int .i64 a0.status, .int .i64 a0.out] 31)
      replace ox0 := ox0.alloc (.cells #[.int .i64 a0.P, .int .i64 a0.party, .int .i64 a0.input, .int .i64 a0.mask, .int .i64 a0.delta, .slice x0.sa x0.sn x0.sc, .slice x0.ka x0.kn x0.kc, .int .i64 a0.step, .slice x0.ha x0.hn x0.hc, .int .i64 a0.status, .int .i64 a0.out] 31)
      have B_x0 : Blk (w5'.alloc (.cells #[.int .i64 a0.P, .int .i64 a0.party, .int .i64 a0.input, .int .i64 a0.mask, .int .i64 a0.delta, .slice x0.sa x0.sn x0.sc, .slice x0.ka x0.kn x0.kc, .int .i64 a0.step, .slice x0.ha x0.hn x0.hc, .int .i64 a0.status, .int .i64 a0.out] 31)) (w5'.heap.size) 31 #[.int .i64 a0.P, .int .i64 a0.party, .int .i64 a0.input, .int .i64 a0.mask, .int .i64 a0.delta, .slice x0.sa x0.sn x0.sc, .slice x0.ka x0.kn x0.kc, .int .i64 a0.step, .slice x0.ha x0.hn x0.hc, .int .i64 a0.status, .int .i64 a0.out] := Blk.new w5' 31 #[.int .i64 a0.P, .int .i64 a0.party, .int .i64 a0.input, .int .i64 a0.mask, .int .i64 a0.delta, .slice x0.sa x0.sn x0.sc, .slice x0.ka x0.kn x0.kc, .int .i64 a0.step, .slice x0.ha x0.hn x0.hc, .int .i64 a0.status, .int .i64 a0.out]
      have S_w6' : w5'.heap.size + 1 ≤ (w5'.alloc (.cells #[.int .i64 a0.P, .int .i64 a0.party, .int .i64 a0.input, .int .i64 a0.mask, .int .i64 a0.delta, .slice x0.sa x0.sn x0.sc, .slice x0.ka x0.kn x0.kc, .int .i64 a0.step, .slice x0.ha x0.hn x0.hc, .int .i64 a0.status, .int .i64 a0.out] 31)).heap.size := by simp
      generalize (w5'.alloc (.cells #[.int .i64 a0.P, .int .i64 a0.party, .int .i64 a0.input, .int .i64 a0.mask, .int .i64 a0.delta, .slice x0.sa x0.sn x0.sc, .slice x0.ka x0.kn x0.kc, .int .i64 a0.step, .slice x0.ha x0.hn x0.hc, .int .i64 a0.status, .int .i64 a0.out] 31)) = w6' at *
      clear V_w5'
      refine (toMessage_any _ _ _ _ _ l1 _ (z1.below V_w6') (by omega)).mono ?_
      rintro e w7' ⟨x1, xc1, rfl, ox1, u_w7'⟩
      replace B_p0 := B_p0.below u_w7'
      replace B_p1 := B_p1.below u_w7'
      replace B_r0 := B_r0.below u_w7'
      replace B_x0 := B_x0.below u_w7'
      replace or0 := or0.below u_w7'
      replace ox0 := ox0.below u_w7'
      have V_w7' := V_w6'.trans (u_w7'.mono (V_w6').size)
      have S_w7' := u_w7'.size
      clear u_w7' V_w6'
      have Q_ox1 := Lib.hid ox1.feet
      have e_x0_0 : w7'.cell? ⟨w5'.heap.size, 0, none⟩ = some (.int .i64 a0.P) := B_x0.cell 0
      have e_x0_0_0 : (w7'.alloc (.cells #[.int .i64 f1, .int .i64 s1, .slice x1 pn1 xc1] 44)).cell? ⟨w5'.heap.size, 0, none⟩ = some (.int .i64 a0.P) := keepA _ e_x0_0
      have e_x0_1 : w7'.cell? ⟨w5'.heap.size, 1, none⟩ = some (.int .i64 a0.party) := B_x0.cell 1
      have e_x0_1_0 : (w7'.alloc (.cells #[.int .i64 f1, .int .i64 s1, .slice x1 pn1 xc1] 44)).cell? ⟨w5'.heap.size, 1, none⟩ = some (.int .i64 a0.party) := keepA _ e_x0_1
      have e_x0_2 : w7'.cell? ⟨w5'.heap.size, 2, none⟩ = some (.int .i64 a0.input) := B_x0.cell 2
      have e_x0_2_0 : (w7'.alloc (.cells #[.int .i64 f1, .int .i64 s1, .slice x1 pn1 xc1] 44)).cell? ⟨w5'.heap.size, 2, none⟩ = some (.int .i64 a0.input) := keepA _ e_x0_2
      have e_x0_3 : w7'.cell? ⟨w5'.heap.size, 3, none⟩ = some (.int .i64 a0.mask) := B_x0.cell 3
      have e_x0_3_0 : (w7'.alloc (.cells #[.int .i64 f1, .int .i64 s1, .slice x1 pn1 xc1] 44)).cell? ⟨w5'.heap.size, 3, none⟩ = some (.int .i64 a0.mask) := keepA _ e_x0_3
      have e_x0_4 : w7'.cell? ⟨w5'.heap.size, 4, none⟩ = some (.int .i64 a0.delta) := B_x0.cell 4
      have e_x0_4_0 : (w7'.alloc (.cells #[.int .i64 f1, .int .i64 s1, .slice x1 pn1 xc1] 44)).cell? ⟨w5'.heap.size, 4, none⟩ = some (.int .i64 a0.delta) := keepA _ e_x0_4
      have e_x0_5 : w7'.cell? ⟨w5'.heap.size, 5, none⟩ = some (.slice x0.sa x0.sn x0.sc) := B_x0.cell 5
      have e_x0_5_0 : (w7'.alloc (.cells #[.int .i64 f1, .int .i64 s1, .slice x1 pn1 xc1] 44)).cell? ⟨w5'.heap.size, 5, none⟩ = some (.slice x0.sa x0.sn x0.sc) := keepA _ e_x0_5
      have e_x0_6 : w7'.cell? ⟨w5'.heap.size, 6, none⟩ = some (.slice x0.ka x0.kn x0.kc) := B_x0.cell 6
      have e_x0_6_0 : (w7'.alloc (.cells #[.int .i64 f1, .int .i64 s1, .slice x1 pn1 xc1] 44)).cell? ⟨w5'.heap.size, 6, none⟩ = some (.slice x0.ka x0.kn x0.kc) := keepA _ e_x0_6
      have e_x0_7 : w7'.cell? ⟨w5'.heap.size, 7, none⟩ = some (.int .i64 a0.step) := B_x0.cell 7
      have e_x0_7_0 : (w7'.alloc (.cells #[.int .i64 f1, .int .i64 s1, .slice x1 pn1 xc1] 44)).cell? ⟨w5'.heap.size, 7, none⟩ = some (.int .i64 a0.step) := keepA _ e_x0_7
      have e_x0_8 : w7'.cell? ⟨w5'.heap.size, 8, none⟩ = some (.slice x0.ha x0.hn x0.hc) := B_x0.cell 8
      have e_x0_8_0 : (w7'.alloc (.cells #[.int .i64 f1, .int .i64 s1, .slice x1 pn1 xc1] 44)).cell? ⟨w5'.heap.size, 8, none⟩ = some (.slice x0.ha x0.hn x0.hc) := keepA _ e_x0_8
      have e_x0_9 : w7'.cell? ⟨w5'.heap.size, 9, none⟩ = some (.int .i64 a0.status) := B_x0.cell 9
      have e_x0_9_0 : (w7'.alloc (.cells #[.int .i64 f1, .int .i64 s1, .slice x1 pn1 xc1] 44)).cell? ⟨w5'.heap.size, 9, none⟩ = some (.int .i64 a0.status) := keepA _ e_x0_9
      have e_x0_10 : w7'.cell? ⟨w5'.heap.size, 10, none⟩ = some (.int .i64 a0.out) := B_x0.cell 10
      have e_x0_10_0 : (w7'.alloc (.cells #[.int .i64 f1, .int .i64 s1, .slice x1 pn1 xc1] 44)).cell? ⟨w5'.heap.size, 10, none⟩ = some (.int .i64 a0.out) := keepA _ e_x0_10
      go_wp2_with fail
      clear e_x0_0 e_x0_0_0 e_x0_1 e_x0_1_0 e_x0_2 e_x0_2_0 e_x0_3 e_x0_3_0 e_x0_4 e_x0_4_0 e_x0_5 e_x0_5_0 e_x0_6 e_x0_6_0 e_x0_7 e_x0_7_0 e_x0_8 e_x0_8_0 e_x0_9 e_x0_9_0 e_x0_10 e_x0_10_0
      have V_w8' : Below w.heap.size w (w7'.alloc (.cells #[.int .i64 f1, .int .i64 s1, .slice x1 pn1 xc1] 44)) := ((V_w7').alloc (by have := (V_w7').size; first | exact this | (simp; omega) | simp) _)
      replace B_p0 := B_p0.alloc (.cells #[.int .i64 f1, .int .i64 s1, .slice x1 pn1 xc1] 44)
      replace B_p1 := B_p1.alloc (.cells #[.int .i64 f1, .int .i64 s1, .slice x1 pn1 xc1] 44)
      replace B_r0 := B_r0.alloc (.cells #[.int .i64 f1, .int .i64 s1, .slice x1 pn1 xc1] 44)
      replace B_x0 := B_x0.alloc (.cells #[.int .i64 f1, .int .i64 s1, .slice x1 pn1 xc1] 44)
      replace or0 := or0.alloc (.cells #[.int .i64 f1, .int .i64 s1, .slice x1 pn1 xc1] 44)
      replace ox0 := ox0.alloc (.cells #[.int .i64 f1, .int .i64 s1, .slice x1 pn1 xc1] 44)
      replace ox1 := ox1.alloc (.cells #[.int .i64 f1, .int .i64 s1, .slice x1 pn1 xc1] 44)
      have B_x1 : Blk (w7'.alloc (.cells #[.int .i64 f1, .int .i64 s1, .slice x1 pn1 xc1] 44)) (w7'.heap.size) 44 #[.int .i64 f1, .int .i64 s1, .slice x1 pn1 xc1] := Blk.new w7' 44 #[.int .i64 f1, .int .i64 s1, .slice x1 pn1 xc1]
      have S_w8' : w7'.heap.size + 1 ≤ (w7'.alloc (.cells #[.int .i64 f1, .int .i64 s1, .slice x1 pn1 xc1] 44)).heap.size := by simp
      generalize (w7'.alloc (.cells #[.int .i64 f1, .int .i64 s1, .slice x1 pn1 xc1] 44)) = w8' at *
      clear V_w7'
      refine (CI.out _ _ _ _ _ ox0.rd ox1.ints (LX.out.below V_w8')).mono ?_
      rintro e w9' ⟨g0, F_g0, rfl, og0, u_w9'⟩
      replace B_p0 := B_p0.below u_w9'
      replace B_p1 := B_p1.below u_w9'
      replace B_r0 := B_r0.below u_w9'
      replace B_x0 := B_x0.below u_w9'
      replace B_x1 := B_x1.below u_w9'
      replace or0 := or0.below u_w9'
      replace ox0 := ox0.below u_w9'
      replace ox1 := ox1.below u_w9'
      have V_w9' := V_w8'.trans (u_w9'.mono (V_w8').size)
      have S_w9' := u_w9'.size
      clear u_w9' V_w8'
      have Q_og0 := Lib.hid og0.feet
      have e_r0_0 : w9'.cell? ⟨bx_r0, 0, none⟩ = some (.int .i64 d0_0.P) := B_r0.cell 0
      have e_r0_0_0 : (w9'.alloc (.cells #[.int .i64 d0_0.P, .int .i64 d0_0.party, .int .i64 d0_0.input, .int .i64 d0_0.mask, .int .i64 d0_0.delta, .slice g0.sa g0.sn g0.sc, .slice g0.ka g0.kn g0.kc, .int .i64 d0_0.step, .slice g0.ha g0.hn g0.hc, .int .i64 d0_0.status, .int .i64 d0_0.out] 31)).cell? ⟨bx_r0, 0, none⟩ = some (.int .i64 d0_0.P) := keepA _ e_r0_0
      have e_r0_1 : w9'.cell? ⟨bx_r0, 1, none⟩ = some (.int .i64 d0_0.party) := B_r0.cell 1
      have e_r0_1_0 : (w9'.alloc (.cells #[.int .i64 d0_0.P, .int .i64 d0_0.party, .int .i64 d0_0.input, .int .i64 d0_0.mask, .int .i64 d0_0.delta, .slice g0.sa g0.sn g0.sc, .slice g0.ka g0.kn g0.kc, .int .i64 d0_0.step, .slice g0.ha g0.hn g0.hc, .int .i64 d0_0.status, .int .i64 d0_0.out] 31)).cell? ⟨bx_r0, 1, none⟩ = some (.int .i64 d0_0.party) := keepA _ e_r0_1
      have e_r0_2 : w9'.cell? ⟨bx_r0, 2, none⟩ = some (.int .i64 d0_0.input) := B_r0.cell 2
      have e_r0_2_0 : (w9'.alloc (.cells #[.int .i64 d0_0.P, .int .i64 d0_0.party, .int .i64 d0_0.input, .int .i64 d0_0.mask, .int .i64 d0_0.delta, .slice g0.sa g0.sn g0.sc, .slice g0.ka g0.kn g0.kc, .int .i64 d0_0.step, .slice g0.ha g0.hn g0.hc, .int .i64 d0_0.status, .int .i64 d0_0.out] 31)).cell? ⟨bx_r0, 2, none⟩ = some (.int .i64 d0_0.input) := keepA _ e_r0_2
      have e_r0_3 : w9'.cell? ⟨bx_r0, 3, none⟩ = some (.int .i64 d0_0.mask) := B_r0.cell 3
      have e_r0_3_0 : (w9'.alloc (.cells #[.int .i64 d0_0.P, .int .i64 d0_0.party, .int .i64 d0_0.input, .int .i64 d0_0.mask, .int .i64 d0_0.delta, .slice g0.sa g0.sn g0.sc, .slice g0.ka g0.kn g0.kc, .int .i64 d0_0.step, .slice g0.ha g0.hn g0.hc, .int .i64 d0_0.status, .int .i64 d0_0.out] 31)).cell? ⟨bx_r0, 3, none⟩ = some (.int .i64 d0_0.mask) := keepA _ e_r0_3
      have e_r0_4 : w9'.cell? ⟨bx_r0, 4, none⟩ = some (.int .i64 d0_0.delta) := B_r0.cell 4
      have e_r0_4_0 : (w9'.alloc (.cells #[.int .i64 d0_0.P, .int .i64 d0_0.party, .int .i64 d0_0.input, .int .i64 d0_0.mask, .int .i64 d0_0.delta, .slice g0.sa g0.sn g0.sc, .slice g0.ka g0.kn g0.kc, .int .i64 d0_0.step, .slice g0.ha g0.hn g0.hc, .int .i64 d0_0.status, .int .i64 d0_0.out] 31)).cell? ⟨bx_r0, 4, none⟩ = some (.int .i64 d0_0.delta) := keepA _ e_r0_4
      have e_r0_5 : w9'.cell? ⟨bx_r0, 5, none⟩ = some (.slice r0.sa r0.sn r0.sc) := B_r0.cell 5
      have e_r0_5_0 : (w9'.alloc (.cells #[.int .i64 d0_0.P, .int .i64 d0_0.party, .int .i64 d0_0.input, .int .i64 d0_0.mask, .int .i64 d0_0.delta, .slice g0.sa g0.sn g0.sc, .slice g0.ka g0.kn g0.kc, .int .i64 d0_0.step, .slice g0.ha g0.hn g0.hc, .int .i64 d0_0.status, .int .i64 d0_0.out] 31)).cell? ⟨bx_r0, 5, none⟩ = some (.slice r0.sa r0.sn r0.sc) := keepA _ e_r0_5
      have e_r0_6 : w9'.cell? ⟨bx_r0, 6, none⟩ = some (.slice r0.ka r0.kn r0.kc) := B_r0.cell 6
      have e_r0_6_0 : (w9'.alloc (.cells #[.int .i64 d0_0.P, .int .i64 d0_0.party, .int .i64 d0_0.input, .int .i64 d0_0.mask, .int .i64 d0_0.delta, .slice g0.sa g0.sn g0.sc, .slice g0.ka g0.kn g0.kc, .int .i64 d0_0.step, .slice g0.ha g0.hn g0.hc, .int .i64 d0_0.status, .int .i64 d0_0.out] 31)).cell? ⟨bx_r0, 6, none⟩ = some (.slice r0.ka r0.kn r0.kc) := keepA _ e_r0_6
      have e_r0_7 : w9'.cell? ⟨bx_r0, 7, none⟩ = some (.int .i64 d0_0.step) := B_r0.cell 7
      have e_r0_7_0 : (w9'.alloc (.cells #[.int .i64 d0_0.P, .int .i64 d0_0.party, .int .i64 d0_0.input, .int .i64 d0_0.mask, .int .i64 d0_0.delta, .slice g0.sa g0.sn g0.sc, .slice g0.ka g0.kn g0.kc, .int .i64 d0_0.step, .slice g0.ha g0.hn g0.hc, .int .i64 d0_0.status, .int .i64 d0_0.out] 31)).cell? ⟨bx_r0, 7, none⟩ = some (.int .i64 d0_0.step) := keepA _ e_r0_7
      have e_r0_8 : w9'.cell? ⟨bx_r0, 8, none⟩ = some (.slice r0.ha r0.hn r0.hc) := B_r0.cell 8
      have e_r0_8_0 : (w9'.alloc (.cells #[.int .i64 d0_0.P, .int .i64 d0_0.party, .int .i64 d0_0.input, .int .i64 d0_0.mask, .int .i64 d0_0.delta, .slice g0.sa g0.sn g0.sc, .slice g0.ka g0.kn g0.kc, .int .i64 d0_0.step, .slice g0.ha g0.hn g0.hc, .int .i64 d0_0.status, .int .i64 d0_0.out] 31)).cell? ⟨bx_r0, 8, none⟩ = some (.slice r0.ha r0.hn r0.hc) := keepA _ e_r0_8
      have e_r0_9 : w9'.cell? ⟨bx_r0, 9, none⟩ = some (.int .i64 d0_0.status) := B_r0.cell 9
      have e_r0_9_0 : (w9'.alloc (.cells #[.int .i64 d0_0.P, .int .i64 d0_0.party, .int .i64 d0_0.input, .int .i64 d0_0.mask, .int .i64 d0_0.delta, .slice g0.sa g0.sn g0.sc, .slice g0.ka g0.kn g0.kc, .int .i64 d0_0.step, .slice g0.ha g0.hn g0.hc, .int .i64 d0_0.status, .int .i64 d0_0.out] 31)).cell? ⟨bx_r0, 9, none⟩ = some (.int .i64 d0_0.status) := keepA _ e_r0_9
      have e_r0_10 : w9'.cell? ⟨bx_r0, 10, none⟩ = some (.int .i64 d0_0.out) := B_r0.cell 10
      have e_r0_10_0 : (w9'.alloc (.cells #[.int .i64 d0_0.P, .int .i64 d0_0.party, .int .i64 d0_0.input, .int .i64 d0_0.mask, .int .i64 d0_0.delta, .slice g0.sa g0.sn g0.sc, .slice g0.ka g0.kn g0.kc, .int .i64 d0_0.step, .slice g0.ha g0.hn g0.hc, .int .i64 d0_0.status, .int .i64 d0_0.out] 31)).cell? ⟨bx_r0, 10, none⟩ = some (.int .i64 d0_0.out) := keepA _ e_r0_10
      go_wp2_with fail
      clear e_r0_0 e_r0_0_0 e_r0_1 e_r0_1_0 e_r0_2 e_r0_2_0 e_r0_3 e_r0_3_0 e_r0_4 e_r0_4_0 e_r0_5 e_r0_5_0 e_r0_6 e_r0_6_0 e_r0_7 e_r0_7_0 e_r0_8 e_r0_8_0 e_r0_9 e_r0_9_0 e_r0_10 e_r0_10_0
      have V_w10' : Below w.heap.size w (w9'.alloc (.cells #[.int .i64 d0_0.P, .int .i64 d0_0.party, .int .i64 d0_0.input, .int .i64 d0_0.mask, .int .i64 d0_0.delta, .slice g0.sa g0.sn g0.sc, .slice g0.ka g0.kn g0.kc, .int .i64 d0_0.step, .slice g0.ha g0.hn g0.hc, .int .i64 d0_0.status, .int .i64 d0_0.out] 31)) := ((V_w9').alloc (by have := (V_w9').size; first | exact this | (simp; omega) | simp) _)
      replace B_p0 := B_p0.alloc (.cells #[.int .i64 d0_0.P, .int .i64 d0_0.party, .int .i64 d0_0.input, .int .i64 d0_0.mask, .int .i64 d0_0.delta, .slice g0.sa g0.sn g0.sc, .slice g0.ka g0.kn g0.kc, .int .i64 d0_0.step, .slice g0.ha g0.hn g0.hc, .int .i64 d0_0.status, .int .i64 d0_0.out] 31)
      replace B_p1 := B_p1.alloc (.cells #[.int .i64 d0_0.P, .int .i64 d0_0.party, .int .i64 d0_0.input, .int .i64 d0_0.mask, .int .i64 d0_0.delta, .slice g0.sa g0.sn g0.sc, .slice g0.ka g0.kn g0.kc, .int .i64 d0_0.step, .slice g0.ha g0.hn g0.hc, .int .i64 d0_0.status, .int .i64 d0_0.out] 31)
      replace B_r0 := B_r0.alloc (.cells #[.int .i64 d0_0.P, .int .i64 d0_0.party, .int .i64 d0_0.input, .int .i64 d0_0.mask, .int .i64 d0_0.delta, .slice g0.sa g0.sn g0.sc, .slice g0.ka g0.kn g0.kc, .int .i64 d0_0.step, .slice g0.ha g0.hn g0.hc, .int .i64 d0_0.status, .int .i64 d0_0.out] 31)
      replace B_x0 := B_x0.alloc (.cells #[.int .i64 d0_0.P, .int .i64 d0_0.party, .int .i64 d0_0.input, .int .i64 d0_0.mask, .int .i64 d0_0.delta, .slice g0.sa g0.sn g0.sc, .slice g0.ka g0.kn g0.kc, .int .i64 d0_0.step, .slice g0.ha g0.hn g0.hc, .int .i64 d0_0.status, .int .i64 d0_0.out] 31)
      replace B_x1 := B_x1.alloc (.cells #[.int .i64 d0_0.P, .int .i64 d0_0.party, .int .i64 d0_0.input, .int .i64 d0_0.mask, .int .i64 d0_0.delta, .slice g0.sa g0.sn g0.sc, .slice g0.ka g0.kn g0.kc, .int .i64 d0_0.step, .slice g0.ha g0.hn g0.hc, .int .i64 d0_0.status, .int .i64 d0_0.out] 31)
      replace or0 := or0.alloc (.cells #[.int .i64 d0_0.P, .int .i64 d0_0.party, .int .i64 d0_0.input, .int .i64 d0_0.mask, .int .i64 d0_0.delta, .slice g0.sa g0.sn g0.sc, .slice g0.ka g0.kn g0.kc, .int .i64 d0_0.step, .slice g0.ha g0.hn g0.hc, .int .i64 d0_0.status, .int .i64 d0_0.out] 31)
      replace ox0 := ox0.alloc (.cells #[.int .i64 d0_0.P, .int .i64 d0_0.party, .int .i64 d0_0.input, .int .i64 d0_0.mask, .int .i64 d0_0.delta, .slice g0.sa g0.sn g0.sc, .slice g0.ka g0.kn g0.kc, .int .i64 d0_0.step, .slice g0.ha g0.hn g0.hc, .int .i64 d0_0.status, .int .i64 d0_0.out] 31)
      replace ox1 := ox1.alloc (.cells #[.int .i64 d0_0.P, .int .i64 d0_0.party, .int .i64 d0_0.input, .int .i64 d0_0.mask, .int .i64 d0_0.delta, .slice g0.sa g0.sn g0.sc, .slice g0.ka g0.kn g0.kc, .int .i64 d0_0.step, .slice g0.ha g0.hn g0.hc, .int .i64 d0_0.status, .int .i64 d0_0.out] 31)
      replace og0 := og0.alloc (.cells #[.int .i64 d0_0.P, .int .i64 d0_0.party, .int .i64 d0_0.input, .int .i64 d0_0.mask, .int .i64 d0_0.delta, .slice g0.sa g0.sn g0.sc, .slice g0.ka g0.kn g0.kc, .int .i64 d0_0.step, .slice g0.ha g0.hn g0.hc, .int .i64 d0_0.status, .int .i64 d0_0.out] 31)
      have B_g0 : Blk (w9'.alloc (.cells #[.int .i64 d0_0.P, .int .i64 d0_0.party, .int .i64 d0_0.input, .int .i64 d0_0.mask, .int .i64 d0_0.delta, .slice g0.sa g0.sn g0.sc, .slice g0.ka g0.kn g0.kc, .int .i64 d0_0.step, .slice g0.ha g0.hn g0.hc, .int .i64 d0_0.status, .int .i64 d0_0.out] 31)) (w9'.heap.size) 31 #[.int .i64 d0_0.P, .int .i64 d0_0.party, .int .i64 d0_0.input, .int .i64 d0_0.mask, .int .i64 d0_0.delta, .slice g0.sa g0.sn g0.sc, .slice g0.ka g0.kn g0.kc, .int .i64 d0_0.step, .slice g0.ha g0.hn g0.hc, .int .i64 d0_0.status, .int .i64 d0_0.out] := Blk.new w9' 31 #[.int .i64 d0_0.P, .int .i64 d0_0.party, .int .i64 d0_0.input, .int .i64 d0_0.mask, .int .i64 d0_0.delta, .slice g0.sa g0.sn g0.sc, .slice g0.ka g0.kn g0.kc, .int .i64 d0_0.step, .slice g0.ha g0.hn g0.hc, .int .i64 d0_0.status, .int .i64 d0_0.out]
      have S_w10' : w9'.heap.size + 1 ≤ (w9'.alloc (.cells #[.int .i64 d0_0.P, .int .i64 d0_0.party, .int .i64 d0_0.input, .int .i64 d0_0.mask, .int .i64 d0_0.delta, .slice g0.sa g0.sn g0.sc, .slice g0.ka g0.kn g0.kc, .int .i64 d0_0.step, .slice g0.ha g0.hn g0.hc, .int .i64 d0_0.status, .int .i64 d0_0.out] 31)).heap.size := by simp
      generalize (w9'.alloc (.cells #[.int .i64 d0_0.P, .int .i64 d0_0.party, .int .i64 d0_0.input, .int .i64 d0_0.mask, .int .i64 d0_0.delta, .slice g0.sa g0.sn g0.sc, .slice g0.ka g0.kn g0.kc, .int .i64 d0_0.step, .slice g0.ha g0.hn g0.hc, .int .i64 d0_0.status, .int .i64 d0_0.out] 31)) = w10' at *
      clear V_w9'
      refine (eqPlayer_o d0_0 _ _ _ og0.rd or0.rd).mono ?_
      rintro e w11' ⟨rfl, u_w11'⟩
      replace B_p0 := B_p0.below u_w11'
      replace B_p1 := B_p1.below u_w11'
      replace B_r0 := B_r0.below u_w11'
      replace B_x0 := B_x0.below u_w11'
      replace B_x1 := B_x1.below u_w11'
      replace B_g0 := B_g0.below u_w11'
      replace or0 := or0.below u_w11'
      replace ox0 := ox0.below u_w11'
      replace ox1 := ox1.below u_w11'
      replace og0 := og0.below u_w11'
      have V_w11' := V_w10'.trans (u_w11'.mono (V_w10').size)
      have S_w11' := u_w11'.size
      clear u_w11' V_w10'
      have e_x0_0 : w11'.cell? ⟨w5'.heap.size, 0, none⟩ = some (.int .i64 a0.P) := B_x0.cell 0
      have e_x0_1 : w11'.cell? ⟨w5'.heap.size, 1, none⟩ = some (.int .i64 a0.party) := B_x0.cell 1
      have e_x0_2 : w11'.cell? ⟨w5'.heap.size, 2, none⟩ = some (.int .i64 a0.input) := B_x0.cell 2
      have e_x0_3 : w11'.cell? ⟨w5'.heap.size, 3, none⟩ = some (.int .i64 a0.mask) := B_x0.cell 3
      have e_x0_4 : w11'.cell? ⟨w5'.heap.size, 4, none⟩ = some (.int .i64 a0.delta) := B_x0.cell 4
      have e_x0_5 : w11'.cell? ⟨w5'.heap.size, 5, none⟩ = some (.slice x0.sa x0.sn x0.sc) := B_x0.cell 5
      have e_x0_6 : w11'.cell? ⟨w5'.heap.size, 6, none⟩ = some (.slice x0.ka x0.kn x0.kc) := B_x0.cell 6
      have e_x0_7 : w11'.cell? ⟨w5'.heap.size, 7, none⟩ = some (.int .i64 a0.step) := B_x0.cell 7
      have e_x0_8 : w11'.cell? ⟨w5'.heap.size, 8, none⟩ = some (.slice x0.ha x0.hn x0.hc) := B_x0.cell 8
      have e_x0_9 : w11'.cell? ⟨w5'.heap.size, 9, none⟩ = some (.int .i64 a0.status) := B_x0.cell 9
      have e_x0_10 : w11'.cell? ⟨w5'.heap.size, 10, none⟩ = some (.int .i64 a0.out) := B_x0.cell 10
      have e_p0_0 : w11'.cell? ⟨w.heap.size, 0, none⟩ = some (.int .i64 a0.P) := B_p0.cell 0
      have e_p0_1 : w11'.cell? ⟨w.heap.size, 1, none⟩ = some (.int .i64 a0.party) := B_p0.cell 1
      have e_p0_2 : w11'.cell? ⟨w.heap.size, 2, none⟩ = some (.int .i64 a0.input) := B_p0.cell 2
      have e_p0_3 : w11'.cell? ⟨w.heap.size, 3, none⟩ = some (.int .i64 a0.mask) := B_p0.cell 3
      have e_p0_4 : w11'.cell? ⟨w.heap.size, 4, none⟩ = some (.int .i64 a0.delta) := B_p0.cell 4
      have e_p0_5 : w11'.cell? ⟨w.heap.size, 5, none⟩ = some (.slice p0.sa p0.sn p0.sc) := B_p0.cell 5
      have e_p0_6 : w11'.cell? ⟨w.heap.size, 6, none⟩ = some (.slice p0.ka p0.kn p0.kc) := B_p0.cell 6
      have e_p0_7 : w11'.cell? ⟨w.heap.size, 7, none⟩ = some (.int .i64 a0.step) := B_p0.cell 7
      have e_p0_8 : w11'.cell? ⟨w.heap.size, 8, none⟩ = some (.slice p0.ha p0.hn p0.hc) := B_p0.cell 8
      have e_p0_9 : w11'.cell? ⟨w.heap.size, 9, none⟩ = some (.int .i64 a0.status) := B_p0.cell 9
      have e_p0_10 : w11'.cell? ⟨w.heap.size, 10, none⟩ = some (.int .i64 a0.out) := B_p0.cell 10
      go_wp2
      go_region_held3 (fun W => W.cell? ⟨w5'.heap.size, 0, none⟩ = some (.int .i64 a0.P) ∧ W.cell? ⟨w5'.heap.size, 1, none⟩ = some (.int .i64 a0.party) ∧ W.cell? ⟨w5'.heap.size, 2, none⟩ = some (.int .i64 a0.input) ∧ W.cell? ⟨w5'.heap.size, 3, none⟩ = some (.int .i64 a0.mask) ∧ W.cell? ⟨w5'.heap.size, 4, none⟩ = some (.int .i64 a0.delta) ∧ W.cell? ⟨w5'.heap.size, 5, none⟩ = some (.slice x0.sa x0.sn x0.sc) ∧ W.cell? ⟨w5'.heap.size, 6, none⟩ = some (.slice x0.ka x0.kn x0.kc) ∧ W.cell? ⟨w5'.heap.size, 7, none⟩ = some (.int .i64 a0.step) ∧ W.cell? ⟨w5'.heap.size, 8, none⟩ = some (.slice x0.ha x0.hn x0.hc) ∧ W.cell? ⟨w5'.heap.size, 9, none⟩ = some (.int .i64 a0.status) ∧ W.cell? ⟨w5'.heap.size, 10, none⟩ = some (.int .i64 a0.out) ∧ W.cell? ⟨w.heap.size, 0, none⟩ = some (.int .i64 a0.P) ∧ W.cell? ⟨w.heap.size, 1, none⟩ = some (.int .i64 a0.party) ∧ W.cell? ⟨w.heap.size, 2, none⟩ = some (.int .i64 a0.input) ∧ W.cell? ⟨w.heap.size, 3, none⟩ = some (.int .i64 a0.mask) ∧ W.cell? ⟨w.heap.size, 4, none⟩ = some (.int .i64 a0.delta) ∧ W.cell? ⟨w.heap.size, 5, none⟩ = some (.slice p0.sa p0.sn p0.sc) ∧ W.cell? ⟨w.heap.size, 6, none⟩ = some (.slice p0.ka p0.kn p0.kc) ∧ W.cell? ⟨w.heap.size, 7, none⟩ = some (.int .i64 a0.step) ∧ W.cell? ⟨w.heap.size, 8, none⟩ = some (.slice p0.ha p0.hn p0.hc) ∧ W.cell? ⟨w.heap.size, 9, none⟩ = some (.int .i64 a0.status) ∧ W.cell? ⟨w.heap.size, 10, none⟩ = some (.int .i64 a0.out))
        (first | go_keep | exact ⟨keepC tv (keepC tu e_x0_0), keepC tv (keepC tu e_x0_1), keepC tv (keepC tu e_x0_2), keepC tv (keepC tu e_x0_3), keepC tv (keepC tu e_x0_4), keepC tv (keepC tu e_x0_5), keepC tv (keepC tu e_x0_6), keepC tv (keepC tu e_x0_7), keepC tv (keepC tu e_x0_8), keepC tv (keepC tu e_x0_9), keepC tv (keepC tu e_x0_10), keepC tv (keepC tu e_p0_0), keepC tv (keepC tu e_p0_1), keepC tv (keepC tu e_p0_2), keepC tv (keepC tu e_p0_3), keepC tv (keepC tu e_p0_4), keepC tv (keepC tu e_p0_5), keepC tv (keepC tu e_p0_6), keepC tv (keepC tu e_p0_7), keepC tv (keepC tu e_p0_8), keepC tv (keepC tu e_p0_9), keepC tv (keepC tu e_p0_10)⟩ | exact ⟨keepC tu e_x0_0, keepC tu e_x0_1, keepC tu e_x0_2, keepC tu e_x0_3, keepC tu e_x0_4, keepC tu e_x0_5, keepC tu e_x0_6, keepC tu e_x0_7, keepC tu e_x0_8, keepC tu e_x0_9, keepC tu e_x0_10, keepC tu e_p0_0, keepC tu e_p0_1, keepC tu e_p0_2, keepC tu e_p0_3, keepC tu e_p0_4, keepC tu e_p0_5, keepC tu e_p0_6, keepC tu e_p0_7, keepC tu e_p0_8, keepC tu e_p0_9, keepC tu e_p0_10⟩)
        (first | (go_at_call 15; refine (toPlayer_o a0 p0 _ (z0.below V_w11'.drew) ht0).mono ?_; rintro e wt ⟨t0, F_t0, rfl, ot0, tu⟩) | (go_at_call 17; refine (eqPlayer_o a0 _ _ _ (ox0.drew.below tu).rd ot0.rd).mono ?_; rintro e wq ⟨rfl, tv⟩))
      have u_w12' : Below w11'.heap.size w11' wq := (Below.refl _ _).drew.trans (tu.trans (tv.mono tu.size))
      clear tu tv e_x0_0 e_x0_1 e_x0_2 e_x0_3 e_x0_4 e_x0_5 e_x0_6 e_x0_7 e_x0_8 e_x0_9 e_x0_10 e_p0_0 e_p0_1 e_p0_2 e_p0_3 e_p0_4 e_p0_5 e_p0_6 e_p0_7 e_p0_8 e_p0_9 e_p0_10 ot0
      replace B_p0 := B_p0.below u_w12'
      replace B_p1 := B_p1.below u_w12'
      replace B_r0 := B_r0.below u_w12'
      replace B_x0 := B_x0.below u_w12'
      replace B_x1 := B_x1.below u_w12'
      replace B_g0 := B_g0.below u_w12'
      replace or0 := or0.below u_w12'
      replace ox0 := ox0.below u_w12'
      replace ox1 := ox1.below u_w12'
      replace og0 := og0.below u_w12'
      have V_wq := V_w11'.trans (u_w12'.mono (V_w11').size)
      have S_wq := u_w12'.size
      clear u_w12' V_w11'
      generalize wq = w12' at *
      have V_w12' := V_wq
      clear V_wq
      have S_w12' := S_wq
      clear S_wq
      have e_x1_0 : w12'.cell? ⟨w7'.heap.size, 0, none⟩ = some (.int .i64 f1) := B_x1.cell 0
      have e_x1_1 : w12'.cell? ⟨w7'.heap.size, 1, none⟩ = some (.int .i64 s1) := B_x1.cell 1
      have e_x1_2 : w12'.cell? ⟨w7'.heap.size, 2, none⟩ = some (.slice x1 pn1 xc1) := B_x1.cell 2
      have e_p1_0 : w12'.cell? ⟨w.heap.size + 1, 0, none⟩ = some (.int .i64 f1) := B_p1.cell 0
      have e_p1_1 : w12'.cell? ⟨w.heap.size + 1, 1, none⟩ = some (.int .i64 s1) := B_p1.cell 1
      have e_p1_2 : w12'.cell? ⟨w.heap.size + 1, 2, none⟩ = some (.slice p1 pn1 pc1) := B_p1.cell 2
      go_wp2
      go_region_held3 (fun W => W.cell? ⟨w7'.heap.size, 0, none⟩ = some (.int .i64 f1) ∧ W.cell? ⟨w7'.heap.size, 1, none⟩ = some (.int .i64 s1) ∧ W.cell? ⟨w7'.heap.size, 2, none⟩ = some (.slice x1 pn1 xc1) ∧ W.cell? ⟨w.heap.size + 1, 0, none⟩ = some (.int .i64 f1) ∧ W.cell? ⟨w.heap.size + 1, 1, none⟩ = some (.int .i64 s1) ∧ W.cell? ⟨w.heap.size + 1, 2, none⟩ = some (.slice p1 pn1 pc1))
        (first | go_keep | exact ⟨keepC tv (keepC tu e_x1_0), keepC tv (keepC tu e_x1_1), keepC tv (keepC tu e_x1_2), keepC tv (keepC tu e_p1_0), keepC tv (keepC tu e_p1_1), keepC tv (keepC tu e_p1_2)⟩ | exact ⟨keepC tu e_x1_0, keepC tu e_x1_1, keepC tu e_x1_2, keepC tu e_p1_0, keepC tu e_p1_1, keepC tu e_p1_2⟩)
        (first | (go_at_call 38; refine (toMessage_any _ _ _ _ _ l1 _ (z1.below V_w12'.drew) (by omega)).mono ?_; rintro e wt ⟨t1, tc1, rfl, ot1, tu⟩) | (go_at_call 28; refine (eqMessage_same _ _ _ _ _ _ _ _ l1 _ (ox1.drew.below tu).ints ot1.ints).mono ?_; rintro e wq ⟨rfl, tv⟩))
      have u_w13' : Below w12'.heap.size w12' wq := (Below.refl _ _).drew.trans (tu.trans (tv.mono tu.size))
      clear tu tv e_x1_0 e_x1_1 e_x1_2 e_p1_0 e_p1_1 e_p1_2 ot1
      replace B_p0 := B_p0.below u_w13'
      replace B_p1 := B_p1.below u_w13'
      replace B_r0 := B_r0.below u_w13'
      replace B_x0 := B_x0.below u_w13'
      replace B_x1 := B_x1.below u_w13'
      replace B_g0 := B_g0.below u_w13'
      replace or0 := or0.below u_w13'
      replace ox0 := ox0.below u_w13'
      replace ox1 := ox1.below u_w13'
      replace og0 := og0.below u_w13'
      have V_wq := V_w12'.trans (u_w13'.mono (V_w12').size)
      have S_wq := u_w13'.size
      clear u_w13' V_w12'
      generalize wq = w13' at *
      have V_w13' := V_wq
      clear V_wq
      have S_w13' := S_wq
      clear S_wq
      have e_x0_0 : w13'.cell? ⟨w5'.heap.size, 0, none⟩ = some (.int .i64 a0.P) := B_x0.cell 0
      have e_x0_1 : w13'.cell? ⟨w5'.heap.size, 1, none⟩ = some (.int .i64 a0.party) := B_x0.cell 1
      have e_x0_2 : w13'.cell? ⟨w5'.heap.size, 2, none⟩ = some (.int .i64 a0.input) := B_x0.cell 2
      have e_x0_3 : w13'.cell? ⟨w5'.heap.size, 3, none⟩ = some (.int .i64 a0.mask) := B_x0.cell 3
      have e_x0_4 : w13'.cell? ⟨w5'.heap.size, 4, none⟩ = some (.int .i64 a0.delta) := B_x0.cell 4
      have e_x0_5 : w13'.cell? ⟨w5'.heap.size, 5, none⟩ = some (.slice x0.sa x0.sn x0.sc) := B_x0.cell 5
      have e_x0_6 : w13'.cell? ⟨w5'.heap.size, 6, none⟩ = some (.slice x0.ka x0.kn x0.kc) := B_x0.cell 6
      have e_x0_7 : w13'.cell? ⟨w5'.heap.size, 7, none⟩ = some (.int .i64 a0.step) := B_x0.cell 7
      have e_x0_8 : w13'.cell? ⟨w5'.heap.size, 8, none⟩ = some (.slice x0.ha x0.hn x0.hc) := B_x0.cell 8
      have e_x0_9 : w13'.cell? ⟨w5'.heap.size, 9, none⟩ = some (.int .i64 a0.status) := B_x0.cell 9
      have e_x0_10 : w13'.cell? ⟨w5'.heap.size, 10, none⟩ = some (.int .i64 a0.out) := B_x0.cell 10
      go_wp2_with fail
      clear e_x0_0 e_x0_1 e_x0_2 e_x0_3 e_x0_4 e_x0_5 e_x0_6 e_x0_7 e_x0_8 e_x0_9 e_x0_10
      refine (markPlayer_o _ _ _ _ _ _ _ _ _ ox0 (by omega) (by omega)).mono ?_
      rintro e w14' ⟨ms_ox0, mk_ox0, mh_ox0, rfl, ox0, U_ox0, T_ox0, G⟩
      replace U_ox0 := Lib.hid U_ox0
      have hm_ox0 : cntP ms_ox0 mk_ox0 mh_ox0 ≤ 10000000 := by omega
      clear T_ox0
      replace or0 := or0.only G (fun k hk hk' => by have := Q_or0.out k hk; have := Q_ox0.out k hk'; omega)
      replace ox1 := ox1.only G (fun k hk hk' => by have := Q_ox1.out k hk; have := Q_ox0.out k hk'; omega)
      replace og0 := og0.only G (fun k hk hk' => by have := Q_og0.out k hk; have := Q_ox0.out k hk'; omega)
      replace B_p0 := B_p0.only G (fun hm => by have := Q_ox0.out _ hm; omega)
      replace B_p1 := B_p1.only G (fun hm => by have := Q_ox0.out _ hm; omega)
      replace B_r0 := B_r0.only G (fun hm => by have := Q_ox0.out _ hm; omega)
      replace B_x0 := B_x0.only G (fun hm => by have := Q_ox0.out _ hm; omega)
      replace B_x1 := B_x1.only G (fun hm => by have := Q_ox0.out _ hm; omega)
      replace B_g0 := B_g0.only G (fun hm => by have := Q_ox0.out _ hm; omega)
      have V_w14' := V_w13'.trans (G.below V_w13'.size (fun k hm => by have := V_w13'.size; have := Q_ox0.out k hm; omega))
      have S_w14' := G.size
      clear G V_w13'
      have e_x1_0 : w14'.cell? ⟨w7'.heap.size, 0, none⟩ = some (.int .i64 f1) := B_x1.cell 0
      have e_x1_1 : w14'.cell? ⟨w7'.heap.size, 1, none⟩ = some (.int .i64 s1) := B_x1.cell 1
      have e_x1_2 : w14'.cell? ⟨w7'.heap.size, 2, none⟩ = some (.slice x1 pn1 xc1) := B_x1.cell 2
      go_wp2_with fail
      clear e_x1_0 e_x1_1 e_x1_2
      refine (markMessage_any _ _ _ _ _ _ _ _ _ ox1 (by omega) (by omega)).mono ?_
      rintro e w15' ⟨rfl, ⟨L_ox1, ox1, U_ox1⟩, G⟩
      replace U_ox1 := Lib.hid U_ox1
      replace or0 := or0.only G (fun k hk hk' => by have := Q_or0.out k hk; have := Q_ox1.out k hk'; omega)
      replace ox0 := ox0.only G (fun k hk hk' => by have := Q_ox0.out k hk; have := Q_ox1.out k hk'; omega)
      replace og0 := og0.only G (fun k hk hk' => by have := Q_og0.out k hk; have := Q_ox1.out k hk'; omega)
      replace B_p0 := B_p0.only G (fun hm => by have := Q_ox1.out _ hm; omega)
      replace B_p1 := B_p1.only G (fun hm => by have := Q_ox1.out _ hm; omega)
      replace B_r0 := B_r0.only G (fun hm => by have := Q_ox1.out _ hm; omega)
      replace B_x0 := B_x0.only G (fun hm => by have := Q_ox1.out _ hm; omega)
      replace B_x1 := B_x1.only G (fun hm => by have := Q_ox1.out _ hm; omega)
      replace B_g0 := B_g0.only G (fun hm => by have := Q_ox1.out _ hm; omega)
      have V_w15' := V_w14'.trans (G.below V_w14'.size (fun k hm => by have := V_w14'.size; have := Q_ox1.out k hm; omega))
      have S_w15' := G.size
      clear G V_w14'
      have e_g0_0 : w15'.cell? ⟨w9'.heap.size, 0, none⟩ = some (.int .i64 d0_0.P) := B_g0.cell 0
      have e_g0_1 : w15'.cell? ⟨w9'.heap.size, 1, none⟩ = some (.int .i64 d0_0.party) := B_g0.cell 1
      have e_g0_2 : w15'.cell? ⟨w9'.heap.size, 2, none⟩ = some (.int .i64 d0_0.input) := B_g0.cell 2
      have e_g0_3 : w15'.cell? ⟨w9'.heap.size, 3, none⟩ = some (.int .i64 d0_0.mask) := B_g0.cell 3
      have e_g0_4 : w15'.cell? ⟨w9'.heap.size, 4, none⟩ = some (.int .i64 d0_0.delta) := B_g0.cell 4
      have e_g0_5 : w15'.cell? ⟨w9'.heap.size, 5, none⟩ = some (.slice g0.sa g0.sn g0.sc) := B_g0.cell 5
      have e_g0_6 : w15'.cell? ⟨w9'.heap.size, 6, none⟩ = some (.slice g0.ka g0.kn g0.kc) := B_g0.cell 6
      have e_g0_7 : w15'.cell? ⟨w9'.heap.size, 7, none⟩ = some (.int .i64 d0_0.step) := B_g0.cell 7
      have e_g0_8 : w15'.cell? ⟨w9'.heap.size, 8, none⟩ = some (.slice g0.ha g0.hn g0.hc) := B_g0.cell 8
      have e_g0_9 : w15'.cell? ⟨w9'.heap.size, 9, none⟩ = some (.int .i64 d0_0.status) := B_g0.cell 9
      have e_g0_10 : w15'.cell? ⟨w9'.heap.size, 10, none⟩ = some (.int .i64 d0_0.out) := B_g0.cell 10
      have e_r0_0 : w15'.cell? ⟨bx_r0, 0, none⟩ = some (.int .i64 d0_0.P) := B_r0.cell 0
      have e_r0_1 : w15'.cell? ⟨bx_r0, 1, none⟩ = some (.int .i64 d0_0.party) := B_r0.cell 1
      have e_r0_2 : w15'.cell? ⟨bx_r0, 2, none⟩ = some (.int .i64 d0_0.input) := B_r0.cell 2
      have e_r0_3 : w15'.cell? ⟨bx_r0, 3, none⟩ = some (.int .i64 d0_0.mask) := B_r0.cell 3
      have e_r0_4 : w15'.cell? ⟨bx_r0, 4, none⟩ = some (.int .i64 d0_0.delta) := B_r0.cell 4
      have e_r0_5 : w15'.cell? ⟨bx_r0, 5, none⟩ = some (.slice r0.sa r0.sn r0.sc) := B_r0.cell 5
      have e_r0_6 : w15'.cell? ⟨bx_r0, 6, none⟩ = some (.slice r0.ka r0.kn r0.kc) := B_r0.cell 6
      have e_r0_7 : w15'.cell? ⟨bx_r0, 7, none⟩ = some (.int .i64 d0_0.step) := B_r0.cell 7
      have e_r0_8 : w15'.cell? ⟨bx_r0, 8, none⟩ = some (.slice r0.ha r0.hn r0.hc) := B_r0.cell 8
      have e_r0_9 : w15'.cell? ⟨bx_r0, 9, none⟩ = some (.int .i64 d0_0.status) := B_r0.cell 9
      have e_r0_10 : w15'.cell? ⟨bx_r0, 10, none⟩ = some (.int .i64 d0_0.out) := B_r0.cell 10
      go_wp2_with fail
      clear e_g0_0 e_g0_1 e_g0_2 e_g0_3 e_g0_4 e_g0_5 e_g0_6 e_g0_7 e_g0_8 e_g0_9 e_g0_10 e_r0_0 e_r0_1 e_r0_2 e_r0_3 e_r0_4 e_r0_5 e_r0_6 e_r0_7 e_r0_8 e_r0_9 e_r0_10
      refine (eqPlayer_o d0_0 _ _ _ og0.rd or0.rd).mono ?_
      rintro e w16' ⟨rfl, u_w16'⟩
      replace B_p0 := B_p0.below u_w16'
      replace B_p1 := B_p1.below u_w16'
      replace B_r0 := B_r0.below u_w16'
      replace B_x0 := B_x0.below u_w16'
      replace B_x1 := B_x1.below u_w16'
      replace B_g0 := B_g0.below u_w16'
      replace or0 := or0.below u_w16'
      replace ox0 := ox0.below u_w16'
      replace ox1 := ox1.below u_w16'
      replace og0 := og0.below u_w16'
      have V_w16' := V_w15'.trans (u_w16'.mono (V_w15').size)
      have S_w16' := u_w16'.size
      clear u_w16' V_w15'
      clear ox0
      clear ox1
      clear B_x0
      clear B_x1
      have e_g0_0 : w16'.cell? ⟨w9'.heap.size, 0, none⟩ = some (.int .i64 d0_0.P) := B_g0.cell 0
      have e_g0_1 : w16'.cell? ⟨w9'.heap.size, 1, none⟩ = some (.int .i64 d0_0.party) := B_g0.cell 1
      have e_g0_2 : w16'.cell? ⟨w9'.heap.size, 2, none⟩ = some (.int .i64 d0_0.input) := B_g0.cell 2
      have e_g0_3 : w16'.cell? ⟨w9'.heap.size, 3, none⟩ = some (.int .i64 d0_0.mask) := B_g0.cell 3
      have e_g0_4 : w16'.cell? ⟨w9'.heap.size, 4, none⟩ = some (.int .i64 d0_0.delta) := B_g0.cell 4
      have e_g0_5 : w16'.cell? ⟨w9'.heap.size, 5, none⟩ = some (.slice g0.sa g0.sn g0.sc) := B_g0.cell 5
      have e_g0_6 : w16'.cell? ⟨w9'.heap.size, 6, none⟩ = some (.slice g0.ka g0.kn g0.kc) := B_g0.cell 6
      have e_g0_7 : w16'.cell? ⟨w9'.heap.size, 7, none⟩ = some (.int .i64 d0_0.step) := B_g0.cell 7
      have e_g0_8 : w16'.cell? ⟨w9'.heap.size, 8, none⟩ = some (.slice g0.ha g0.hn g0.hc) := B_g0.cell 8
      have e_g0_9 : w16'.cell? ⟨w9'.heap.size, 9, none⟩ = some (.int .i64 d0_0.status) := B_g0.cell 9
      have e_g0_10 : w16'.cell? ⟨w9'.heap.size, 10, none⟩ = some (.int .i64 d0_0.out) := B_g0.cell 10
      go_wp2_with fail
      clear e_g0_0 e_g0_1 e_g0_2 e_g0_3 e_g0_4 e_g0_5 e_g0_6 e_g0_7 e_g0_8 e_g0_9 e_g0_10
      refine (markPlayer_o _ _ _ _ _ _ _ _ _ og0 (by omega) (by omega)).mono ?_
      rintro e w17' ⟨ms_og0, mk_og0, mh_og0, rfl, og0, U_og0, T_og0, G⟩
      replace U_og0 := Lib.hid U_og0
      have hm_og0 : cntP ms_og0 mk_og0 mh_og0 ≤ 10000000 := by omega
      clear T_og0
      replace or0 := or0.only G (fun k hk hk' => by have := Q_or0.out k hk; have := Q_og0.out k hk'; omega)
      replace B_p0 := B_p0.only G (fun hm => by have := Q_og0.out _ hm; omega)
      replace B_p1 := B_p1.only G (fun hm => by have := Q_og0.out _ hm; omega)
      replace B_r0 := B_r0.only G (fun hm => by have := Q_og0.out _ hm; omega)
      replace B_g0 := B_g0.only G (fun hm => by have := Q_og0.out _ hm; omega)
      have V_w17' := V_w16'.trans (G.below V_w16'.size (fun k hm => by have := V_w16'.size; have := Q_og0.out k hm; omega))
      have S_w17' := G.size
      clear G V_w16'
      have e_g0_0 : w17'.cell? ⟨w9'.heap.size, 0, none⟩ = some (.int .i64 d0_0.P) := B_g0.cell 0
      have e_g0_1 : w17'.cell? ⟨w9'.heap.size, 1, none⟩ = some (.int .i64 d0_0.party) := B_g0.cell 1
      have e_g0_2 : w17'.cell? ⟨w9'.heap.size, 2, none⟩ = some (.int .i64 d0_0.input) := B_g0.cell 2
      have e_g0_3 : w17'.cell? ⟨w9'.heap.size, 3, none⟩ = some (.int .i64 d0_0.mask) := B_g0.cell 3
      have e_g0_4 : w17'.cell? ⟨w9'.heap.size, 4, none⟩ = some (.int .i64 d0_0.delta) := B_g0.cell 4
      have e_g0_5 : w17'.cell? ⟨w9'.heap.size, 5, none⟩ = some (.slice g0.sa g0.sn g0.sc) := B_g0.cell 5
      have e_g0_6 : w17'.cell? ⟨w9'.heap.size, 6, none⟩ = some (.slice g0.ka g0.kn g0.kc) := B_g0.cell 6
      have e_g0_7 : w17'.cell? ⟨w9'.heap.size, 7, none⟩ = some (.int .i64 d0_0.step) := B_g0.cell 7
      have e_g0_8 : w17'.cell? ⟨w9'.heap.size, 8, none⟩ = some (.slice g0.ha g0.hn g0.hc) := B_g0.cell 8
      have e_g0_9 : w17'.cell? ⟨w9'.heap.size, 9, none⟩ = some (.int .i64 d0_0.status) := B_g0.cell 9
      have e_g0_10 : w17'.cell? ⟨w9'.heap.size, 10, none⟩ = some (.int .i64 d0_0.out) := B_g0.cell 10
      go_wp2_with fail
      clear e_g0_0 e_g0_1 e_g0_2 e_g0_3 e_g0_4 e_g0_5 e_g0_6 e_g0_7 e_g0_8 e_g0_9 e_g0_10
      refine (heldPlayer_o _ _ _ _ _ _ _ og0.rd U_og0.out (by omega) (by omega)).mono ?_
      rintro e w18' ⟨rfl, u_w18'⟩
      replace B_p0 := B_p0.below u_w18'
      replace B_p1 := B_p1.below u_w18'
      replace B_r0 := B_r0.below u_w18'
      replace B_g0 := B_g0.below u_w18'
      replace or0 := or0.below u_w18'
      replace og0 := og0.below u_w18'
      have V_w18' := V_w17'.trans (u_w18'.mono (V_w17').size)
      have S_w18' := u_w18'.size
      clear u_w18' V_w17'
      go_upto_region 31 with fail
      go_cut [15, 16] (fun s15 s16 wx => ∃ (h0 : PlX) (F_h0 : List Nat) (bx_h0 : Nat), s15 = .pointer (some ⟨bx_h0, 0, none⟩) ∧ s16 = .bool d1_0 ∧ PlO wx w18'.heap.size h0 d0_0.shares d0_0.keys d0_0.heard F_h0 ∧ (∀ k ∈ F_h0, (w18'.heap.size ≤ k ∧ k < wx.heap.size) ∧ k ≠ bx_h0) ∧ Blk wx bx_h0 31 #[.int .i64 d0_0.P, .int .i64 d0_0.party, .int .i64 d0_0.input, .int .i64 d0_0.mask, .int .i64 d0_0.delta, .slice h0.sa h0.sn h0.sc, .slice h0.ka h0.kn h0.kc, .int .i64 d0_0.step, .slice h0.ha h0.hn h0.hc, .int .i64 d0_0.status, .int .i64 d0_0.out] ∧ (w18'.heap.size ≤ bx_h0 ∧ bx_h0 < wx.heap.size) ∧ Below w18'.heap.size w18' wx)
      case first =>
        replace B_p0 := Blk.drew B_p0
        replace B_p1 := Blk.drew B_p1
        have SC : w18'.heap.size ≤ w18'.drew.heap.size := Nat.le_refl _
        have U : Below w18'.heap.size w18' w18'.drew := (Below.refl _ _).drew
        refine wp_region_noPanic ?_
        refine wp_region_held_drew (S := (fun W => Blk W (w.heap.size) 26 #[.int .i64 a0.P, .int .i64 a0.party, .int .i64 a0.input, .int .i64 a0.mask, .int .i64 a0.delta, .slice p0.sa p0.sn p0.sc, .slice p0.ka p0.kn p0.kc, .int .i64 a0.step, .slice p0.ha p0.hn p0.hc, .int .i64 a0.status, .int .i64 a0.out] ∧ Blk W (w.heap.size + 1) 53 #[.int .i64 f1, .int .i64 s1, .slice p1 pn1 pc1])) (by kernel_rfl) ?hS16 (fun hHeld => ?go16)
        case hS16 => exact ⟨B_p0, B_p1⟩
        refine wpAnyH_take (i := 0) (oi := { dst := some 95, op := _, type := _, pos := _, after := _, guard := _ }) (v := ?v0_17) rfl (by kernel_rfl) (by kernel_rfl) (by kernel_rfl) (fun _ _ _ h => h) (Or.inl ⟨by rfl, ?hy0_17⟩) hHeld ?rest0_17
        case hy0_17 => (intro w hSw; obtain ⟨qS0, qS1⟩ := hSw; have cS0_0 := qS0.cell 0; have cS0_1 := qS0.cell 1; have cS0_2 := qS0.cell 2; have cS0_3 := qS0.cell 3; have cS0_4 := qS0.cell 4; have cS0_5 := qS0.cell 5; have cS0_6 := qS0.cell 6; have cS0_7 := qS0.cell 7; have cS0_8 := qS0.cell 8; have cS0_9 := qS0.cell 9; have cS0_10 := qS0.cell 10; have cS1_0 := qS1.cell 0; have cS1_1 := qS1.cell 1; have cS1_2 := qS1.cell 2; first | (go_simp; done) | (go_simp; with_reducible rfl) | (with_reducible rfl))
        (try simp only [Act.put, List.setIfInBounds_toArray, List.set_cons_zero, List.set_cons_succ])
        refine wpAnyH_take (i := 2) (oi := { dst := some 97, op := _, type := _, pos := _, after := _, guard := _ }) (v := ?v2_18) rfl (by kernel_rfl) (by kernel_rfl) (by kernel_rfl) (fun _ _ _ h => h) (Or.inl ⟨by rfl, ?hy2_18⟩) hHeld ?rest2_18
        case hy2_18 => (intro w hSw; obtain ⟨qS0, qS1⟩ := hSw; have cS0_0 := qS0.cell 0; have cS0_1 := qS0.cell 1; have cS0_2 := qS0.cell 2; have cS0_3 := qS0.cell 3; have cS0_4 := qS0.cell 4; have cS0_5 := qS0.cell 5; have cS0_6 := qS0.cell 6; have cS0_7 := qS0.cell 7; have cS0_8 := qS0.cell 8; have cS0_9 := qS0.cell 9; have cS0_10 := qS0.cell 10; have cS1_0 := qS1.cell 0; have cS1_1 := qS1.cell 1; have cS1_2 := qS1.cell 2; first | (go_simp; done) | (go_simp; with_reducible rfl) | (with_reducible rfl))
        (try simp only [Act.put, List.setIfInBounds_toArray, List.set_cons_zero, List.set_cons_succ])
        refine wpAnyH_ready (rs := [1, 8]) (by kernel_rfl) (by simp) ?_
        refine AllReadyH.cons (o := { dst := some 96, op := _, type := _, pos := _, after := _, guard := _ }) rfl (fun K hK => ?_) ?_
        go_simp
        refine (toPlayer_o a0 p0 _ (z0.below (V_w18'.trans (U.mono V_w18'.size))) ht0).mono ?_
        rintro e wo1 ⟨x0, F_x0, rfl, ox0, uwo1⟩
        replace B_p0 := Blk.below B_p0 uwo1
        replace B_p1 := Blk.below B_p1 uwo1
        have S_wo1 : w18'.drew.heap.size ≤ wo1.heap.size := uwo1.size
        replace U : Below w18'.heap.size w18' wo1 := U.trans (uwo1.mono U.size)
        clear uwo1
        refine hK.out _ _ ?_ (fun hHeld => ?_)
        · (exact ⟨B_p0, B_p1⟩)
        clear hK K
        (try simp only [Act.put, List.setIfInBounds_toArray, List.set_cons_zero, List.set_cons_succ])
        refine wpAnyH_ready (rs := [3, 8]) (by kernel_rfl) (by simp) ?_
        refine AllReadyH.cons (o := { dst := some 98, op := _, type := _, pos := _, after := _, guard := _ }) rfl (fun K hK => ?_) ?_
        go_simp
        refine (toMessage_any _ _ _ _ _ l1 _ (z1.below (V_w18'.trans (U.mono V_w18'.size))) (by omega)).mono ?_
        rintro e wo3 ⟨x1, xc1, rfl, ox1, uwo3⟩
        replace B_p0 := Blk.below B_p0 uwo3
        replace B_p1 := Blk.below B_p1 uwo3
        replace ox0 := ox0.below uwo3
        have S_wo3 : wo1.heap.size ≤ wo3.heap.size := uwo3.size
        replace U : Below w18'.heap.size w18' wo3 := U.trans (uwo3.mono U.size)
        clear uwo3
        refine hK.out _ _ ?_ (fun hHeld => ?_)
        · (exact ⟨B_p0, B_p1⟩)
        clear hK K
        (try simp only [Act.put, List.setIfInBounds_toArray, List.set_cons_zero, List.set_cons_succ])
        refine wpAnyH_ready (rs := [4, 8]) (by kernel_rfl) (by simp) ?_
        refine AllReadyH.cons (o := { dst := some 99, op := _, type := _, pos := _, after := _, guard := _ }) rfl (fun K hK => ?_) ?_
        go_simp
        refine (CI.out _ _ _ _ _ ox0.rd ox1.ints (LX.out.below (V_w18'.trans (U.mono V_w18'.size)))).mono ?_
        rintro e wo4 ⟨h0, F_h0, rfl, oh0, uwo4⟩
        have Q_oh0 := Lib.hid oh0.feet
        replace oh0 := oh0.lower (b' := w18'.heap.size) (by omega)
        replace B_p0 := Blk.below B_p0 uwo4
        replace B_p1 := Blk.below B_p1 uwo4
        have S_wo4 : wo3.heap.size ≤ wo4.heap.size := uwo4.size
        replace U : Below w18'.heap.size w18' wo4 := U.trans (uwo4.mono U.size)
        clear uwo4 ox0 ox1
        refine hK.out _ _ ?_ (fun hHeld => ?_)
        · (exact ⟨B_p0, B_p1⟩)
        clear hK K
        (try simp only [Act.put, List.setIfInBounds_toArray, List.set_cons_zero, List.set_cons_succ])
        refine wpAnyH_take (i := 5) (oi := { dst := some 94, op := _, type := _, pos := _, after := _, guard := _ }) (v := ?v5_19) rfl (by kernel_rfl) (by kernel_rfl) (by kernel_rfl) (fun _ _ _ h => h) (Or.inl ⟨by rfl, ?hy5_19⟩) hHeld ?rest5_19
        case hy5_19 => (intro w _; first | (go_simp; done) | (go_simp; with_reducible rfl) | (with_reducible rfl))
        (try simp only [Act.put, List.setIfInBounds_toArray, List.set_cons_zero, List.set_cons_succ])
        refine wpAnyH_take (i := 6) (oi := { dst := some 100, op := _, type := _, pos := _, after := _, guard := _ }) (v := ?v6_20) rfl (by kernel_rfl) (by kernel_rfl) (by kernel_rfl) (fun _ _ _ h => h) (Or.inl ⟨by rfl, ?hy6_20⟩) hHeld ?rest6_20
        case hy6_20 => (intro w _; first | (go_simp; done) | (go_simp; with_reducible rfl) | (with_reducible rfl))
        (try simp only [Act.put, List.setIfInBounds_toArray, List.set_cons_zero, List.set_cons_succ])
        refine wpAnyH_take (i := 7) (oi := { dst := some 101, op := _, type := _, pos := _, after := _, guard := _ }) (v := ?v7_21) rfl (by kernel_rfl) (by kernel_rfl) (by kernel_rfl) (fun _ _ _ h => h) (Or.inl ⟨by rfl, ?hy7_21⟩) hHeld ?rest7_21
        case hy7_21 => (intro w _; first | (go_simp; done) | (go_simp; with_reducible rfl) | (with_reducible rfl))
        (try simp only [Act.put, List.setIfInBounds_toArray, List.set_cons_zero, List.set_cons_succ])
        refine wpAnyH_ready (rs := [8]) (by kernel_rfl) (by simp) ?_
        refine AllReadyH.cons (o := { dst := some 15, op := _, type := _, pos := _, after := _, guard := _ }) rfl (fun K hK => ?_) ?_
        go_simp
        have uwo8 : Below wo4.heap.size wo4 (wo4.alloc (.cells #[.int .i64 0, .int .i64 0, .int .i64 0, .int .i64 0, .int .i64 0, .slice none 0 0, .slice none 0 0, .int .i64 0, .slice none 0 0, .int .i64 0, .int .i64 0] 31)) := (Below.refl _ _).alloc (Nat.le_refl _) _
        have B_h0 : Blk (wo4.alloc (.cells #[.int .i64 0, .int .i64 0, .int .i64 0, .int .i64 0, .int .i64 0, .slice none 0 0, .slice none 0 0, .int .i64 0, .slice none 0 0, .int .i64 0, .int .i64 0] 31)) wo4.heap.size 31 #[.int .i64 0, .int .i64 0, .int .i64 0, .int .i64 0, .int .i64 0, .slice none 0 0, .slice none 0 0, .int .i64 0, .slice none 0 0, .int .i64 0, .int .i64 0] := Blk.new _ _ _
        have hb_h0 : wo4.heap.size < (wo4.alloc (.cells #[.int .i64 0, .int .i64 0, .int .i64 0, .int .i64 0, .int .i64 0, .slice none 0 0, .slice none 0 0, .int .i64 0, .slice none 0 0, .int .i64 0, .int .i64 0] 31)).heap.size := by simp
        generalize (wo4.alloc (.cells #[.int .i64 0, .int .i64 0, .int .i64 0, .int .i64 0, .int .i64 0, .slice none 0 0, .slice none 0 0, .int .i64 0, .slice none 0 0, .int .i64 0, .int .i64 0] 31)) = wo8 at *
        replace B_p0 := Blk.below B_p0 uwo8
        replace B_p1 := Blk.below B_p1 uwo8
        replace oh0 := oh0.below uwo8
        have S_wo8 : wo4.heap.size ≤ wo8.heap.size := uwo8.size
        replace U : Below w18'.heap.size w18' wo8 := U.trans (uwo8.mono U.size)
        clear uwo8
        have hc_h0 : w18'.heap.size ≤ wo4.heap.size := by first | exact Nat.le_refl _ | omega
        generalize hbx_h0 : wo4.heap.size = bx_h0 at *
        refine hK.out _ _ ?_ (fun hHeld => ?_)
        · (exact ⟨B_p0, B_p1⟩)
        clear hK K
        (try simp only [Act.put, List.setIfInBounds_toArray, List.set_cons_zero, List.set_cons_succ])
        generalize wo8 = wT at *
        have S_T : w18'.heap.size ≤ wT.heap.size := U.size
        rotate_left 1
        exact AllReadyH.nil
        refine AllReadyH.cons (o := { dst := some 15, op := _, type := _, pos := _, after := _, guard := _ }) rfl (fun K hK => ?_) ?_
        go_simp
        have uwo8 : Below wo3.heap.size wo3 (wo3.alloc (.cells #[.int .i64 0, .int .i64 0, .int .i64 0, .int .i64 0, .int .i64 0, .slice none 0 0, .slice none 0 0, .int .i64 0, .slice none 0 0, .int .i64 0, .int .i64 0] 31)) := (Below.refl _ _).alloc (Nat.le_refl _) _
        have B_h0 : Blk (wo3.alloc (.cells #[.int .i64 0, .int .i64 0, .int .i64 0, .int .i64 0, .int .i64 0, .slice none 0 0, .slice none 0 0, .int .i64 0, .slice none 0 0, .int .i64 0, .int .i64 0] 31)) wo3.heap.size 31 #[.int .i64 0, .int .i64 0, .int .i64 0, .int .i64 0, .int .i64 0, .slice none 0 0, .slice none 0 0, .int .i64 0, .slice none 0 0, .int .i64 0, .int .i64 0] := Blk.new _ _ _
        have hb_h0 : wo3.heap.size < (wo3.alloc (.cells #[.int .i64 0, .int .i64 0, .int .i64 0, .int .i64 0, .int .i64 0, .slice none 0 0, .slice none 0 0, .int .i64 0, .slice none 0 0, .int .i64 0, .int .i64 0] 31)).heap.size := by simp
        generalize (wo3.alloc (.cells #[.int .i64 0, .int .i64 0, .int .i64 0, .int .i64 0, .int .i64 0, .slice none 0 0, .slice none 0 0, .int .i64 0, .slice none 0 0, .int .i64 0, .int .i64 0] 31)) = wo8 at *
        replace B_p0 := Blk.below B_p0 uwo8
        replace B_p1 := Blk.below B_p1 uwo8
        replace ox0 := ox0.below uwo8
        replace ox1 := ox1.below uwo8
        have S_wo8 : wo3.heap.size ≤ wo8.heap.size := uwo8.size
        replace U : Below w18'.heap.size w18' wo8 := U.trans (uwo8.mono U.size)
        clear uwo8
        have hc_h0 : w18'.heap.size ≤ wo3.heap.size := by first | exact Nat.le_refl _ | omega
        generalize hbx_h0 : wo3.heap.size = bx_h0 at *
        refine hK.out _ _ ?_ (fun hHeld => ?_)
        · (exact ⟨B_p0, B_p1⟩)
        clear hK K
        (try simp only [Act.put, List.setIfInBounds_toArray, List.set_cons_zero, List.set_cons_succ])
        refine wpAnyH_ready (rs := [4]) (by kernel_rfl) (by simp) ?_
        refine AllReadyH.cons (o := { dst := some 99, op := _, type := _, pos := _, after := _, guard := _ }) rfl (fun K hK => ?_) ?_
        go_simp
        refine (CI.out _ _ _ _ _ ox0.rd ox1.ints (LX.out.below (V_w18'.trans (U.mono V_w18'.size)))).mono ?_
        rintro e wo4 ⟨h0, F_h0, rfl, oh0, uwo4⟩
        have Q_oh0 := Lib.hid oh0.feet
        have N_h0_0 : ∀ k ∈ F_h0, k ≠ bx_h0 := fun k hk => by have := Q_oh0.out k hk; omega
        replace oh0 := oh0.lower (b' := w18'.heap.size) (by omega)
        replace B_p0 := Blk.below B_p0 uwo4
        replace B_p1 := Blk.below B_p1 uwo4
        replace B_h0 := Blk.below B_h0 uwo4
        have S_wo4 : wo8.heap.size ≤ wo4.heap.size := uwo4.size
        replace U : Below w18'.heap.size w18' wo4 := U.trans (uwo4.mono U.size)
        clear uwo4 ox0 ox1
        refine hK.out _ _ ?_ (fun hHeld => ?_)
        · (exact ⟨B_p0, B_p1⟩)
        clear hK K
        (try simp only [Act.put, List.setIfInBounds_toArray, List.set_cons_zero, List.set_cons_succ])
        refine wpAnyH_take (i := 5) (oi := { dst := some 94, op := _, type := _, pos := _, after := _, guard := _ }) (v := ?v5_22) rfl (by kernel_rfl) (by kernel_rfl) (by kernel_rfl) (fun _ _ _ h => h) (Or.inl ⟨by rfl, ?hy5_22⟩) hHeld ?rest5_22
        case hy5_22 => (intro w _; first | (go_simp; done) | (go_simp; with_reducible rfl) | (with_reducible rfl))
        (try simp only [Act.put, List.setIfInBounds_toArray, List.set_cons_zero, List.set_cons_succ])
        refine wpAnyH_take (i := 6) (oi := { dst := some 100, op := _, type := _, pos := _, after := _, guard := _ }) (v := ?v6_23) rfl (by kernel_rfl) (by kernel_rfl) (by kernel_rfl) (fun _ _ _ h => h) (Or.inl ⟨by rfl, ?hy6_23⟩) hHeld ?rest6_23
        case hy6_23 => (intro w _; first | (go_simp; done) | (go_simp; with_reducible rfl) | (with_reducible rfl))
        (try simp only [Act.put, List.setIfInBounds_toArray, List.set_cons_zero, List.set_cons_succ])
        refine wpAnyH_take (i := 7) (oi := { dst := some 101, op := _, type := _, pos := _, after := _, guard := _ }) (v := ?v7_24) rfl (by kernel_rfl) (by kernel_rfl) (by kernel_rfl) (fun _ _ _ h => h) (Or.inl ⟨by rfl, ?hy7_24⟩) hHeld ?rest7_24
        case hy7_24 => (intro w _; first | (go_simp; done) | (go_simp; with_reducible rfl) | (with_reducible rfl))
        (try simp only [Act.put, List.setIfInBounds_toArray, List.set_cons_zero, List.set_cons_succ])
        generalize wo4 = wT at *
        have S_T : w18'.heap.size ≤ wT.heap.size := U.size
        rotate_left 1
        exact AllReadyH.nil
        exact AllReadyH.nil
        refine AllReadyH.cons (o := { dst := some 15, op := _, type := _, pos := _, after := _, guard := _ }) rfl (fun K hK => ?_) ?_
        go_simp
        have uwo8 : Below wo1.heap.size wo1 (wo1.alloc (.cells #[.int .i64 0, .int .i64 0, .int .i64 0, .int .i64 0, .int .i64 0, .slice none 0 0, .slice none 0 0, .int .i64 0, .slice none 0 0, .int .i64 0, .int .i64 0] 31)) := (Below.refl _ _).alloc (Nat.le_refl _) _
        have B_h0 : Blk (wo1.alloc (.cells #[.int .i64 0, .int .i64 0, .int .i64 0, .int .i64 0, .int .i64 0, .slice none 0 0, .slice none 0 0, .int .i64 0, .slice none 0 0, .int .i64 0, .int .i64 0] 31)) wo1.heap.size 31 #[.int .i64 0, .int .i64 0, .int .i64 0, .int .i64 0, .int .i64 0, .slice none 0 0, .slice none 0 0, .int .i64 0, .slice none 0 0, .int .i64 0, .int .i64 0] := Blk.new _ _ _
        have hb_h0 : wo1.heap.size < (wo1.alloc (.cells #[.int .i64 0, .int .i64 0, .int .i64 0, .int .i64 0, .int .i64 0, .slice none 0 0, .slice none 0 0, .int .i64 0, .slice none 0 0, .int .i64 0, .int .i64 0] 31)).heap.size := by simp
        generalize (wo1.alloc (.cells #[.int .i64 0, .int .i64 0, .int .i64 0, .int .i64 0, .int .i64 0, .slice none 0 0, .slice none 0 0, .int .i64 0, .slice none 0 0, .int .i64 0, .int .i64 0] 31)) = wo8 at *
        replace B_p0 := Blk.below B_p0 uwo8
        replace B_p1 := Blk.below B_p1 uwo8
        replace ox0 := ox0.below uwo8
        have S_wo8 : wo1.heap.size ≤ wo8.heap.size := uwo8.size
        replace U : Below w18'.heap.size w18' wo8 := U.trans (uwo8.mono U.size)
        clear uwo8
        have hc_h0 : w18'.heap.size ≤ wo1.heap.size := by first | exact Nat.le_refl _ | omega
        generalize hbx_h0 : wo1.heap.size = bx_h0 at *
        refine hK.out _ _ ?_ (fun hHeld => ?_)
        · (exact ⟨B_p0, B_p1⟩)
        clear hK K
        (try simp only [Act.put, List.setIfInBounds_toArray, List.set_cons_zero, List.set_cons_succ])
        refine wpAnyH_ready (rs := [3]) (by kernel_rfl) (by simp) ?_
        refine AllReadyH.cons (o := { dst := some 98, op := _, type := _, pos := _, after := _, guard := _ }) rfl (fun K hK => ?_) ?_
        go_simp
        refine (toMessage_any _ _ _ _ _ l1 _ (z1.below (V_w18'.trans (U.mono V_w18'.size))) (by omega)).mono ?_
        rintro e wo3 ⟨x1, xc1, rfl, ox1, uwo3⟩
        replace B_p0 := Blk.below B_p0 uwo3
        replace B_p1 := Blk.below B_p1 uwo3
        replace B_h0 := Blk.below B_h0 uwo3
        replace ox0 := ox0.below uwo3
        have S_wo3 : wo8.heap.size ≤ wo3.heap.size := uwo3.size
        replace U : Below w18'.heap.size w18' wo3 := U.trans (uwo3.mono U.size)
        clear uwo3
        refine hK.out _ _ ?_ (fun hHeld => ?_)
        · (exact ⟨B_p0, B_p1⟩)
        clear hK K
        (try simp only [Act.put, List.setIfInBounds_toArray, List.set_cons_zero, List.set_cons_succ])
        refine wpAnyH_ready (rs := [4]) (by kernel_rfl) (by simp) ?_
        refine AllReadyH.cons (o := { dst := some 99, op := _, type := _, pos := _, after := _, guard := _ }) rfl (fun K hK => ?_) ?_
        go_simp
        refine (CI.out _ _ _ _ _ ox0.rd ox1.ints (LX.out.below (V_w18'.trans (U.mono V_w18'.size)))).mono ?_
        rintro e wo4 ⟨h0, F_h0, rfl, oh0, uwo4⟩
        have Q_oh0 := Lib.hid oh0.feet
        have N_h0_0 : ∀ k ∈ F_h0, k ≠ bx_h0 := fun k hk => by have := Q_oh0.out k hk; omega
        replace oh0 := oh0.lower (b' := w18'.heap.size) (by omega)
        replace B_p0 := Blk.below B_p0 uwo4
        replace B_p1 := Blk.below B_p1 uwo4
        replace B_h0 := Blk.below B_h0 uwo4
        have S_wo4 : wo3.heap.size ≤ wo4.heap.size := uwo4.size
        replace U : Below w18'.heap.size w18' wo4 := U.trans (uwo4.mono U.size)
        clear uwo4 ox0 ox1
        refine hK.out _ _ ?_ (fun hHeld => ?_)
        · (exact ⟨B_p0, B_p1⟩)
        clear hK K
        (try simp only [Act.put, List.setIfInBounds_toArray, List.set_cons_zero, List.set_cons_succ])
        refine wpAnyH_take (i := 5) (oi := { dst := some 94, op := _, type := _, pos := _, after := _, guard := _ }) (v := ?v5_25) rfl (by kernel_rfl) (by kernel_rfl) (by kernel_rfl) (fun _ _ _ h => h) (Or.inl ⟨by rfl, ?hy5_25⟩) hHeld ?rest5_25
        case hy5_25 => (intro w _; first | (go_simp; done) | (go_simp; with_reducible rfl) | (with_reducible rfl))
        (try simp only [Act.put, List.setIfInBounds_toArray, List.set_cons_zero, List.set_cons_succ])
        refine wpAnyH_take (i := 6) (oi := { dst := some 100, op := _, type := _, pos := _, after := _, guard := _ }) (v := ?v6_26) rfl (by kernel_rfl) (by kernel_rfl) (by kernel_rfl) (fun _ _ _ h => h) (Or.inl ⟨by rfl, ?hy6_26⟩) hHeld ?rest6_26
        case hy6_26 => (intro w _; first | (go_simp; done) | (go_simp; with_reducible rfl) | (with_reducible rfl))
        (try simp only [Act.put, List.setIfInBounds_toArray, List.set_cons_zero, List.set_cons_succ])
        refine wpAnyH_take (i := 7) (oi := { dst := some 101, op := _, type := _, pos := _, after := _, guard := _ }) (v := ?v7_27) rfl (by kernel_rfl) (by kernel_rfl) (by kernel_rfl) (fun _ _ _ h => h) (Or.inl ⟨by rfl, ?hy7_27⟩) hHeld ?rest7_27
        case hy7_27 => (intro w _; first | (go_simp; done) | (go_simp; with_reducible rfl) | (with_reducible rfl))
        (try simp only [Act.put, List.setIfInBounds_toArray, List.set_cons_zero, List.set_cons_succ])
        generalize wo4 = wT at *
        have S_T : w18'.heap.size ≤ wT.heap.size := U.size
        rotate_left 1
        exact AllReadyH.nil
        exact AllReadyH.nil
        exact AllReadyH.nil
        refine AllReadyH.cons (o := { dst := some 15, op := _, type := _, pos := _, after := _, guard := _ }) rfl (fun K hK => ?_) ?_
        go_simp
        have uwo8 : Below w18'.drew.heap.size w18'.drew ((w18'.alloc (.cells #[.int .i64 0, .int .i64 0, .int .i64 0, .int .i64 0, .int .i64 0, .slice none 0 0, .slice none 0 0, .int .i64 0, .slice none 0 0, .int .i64 0, .int .i64 0] 31)).drew) := (let h := (((Below.refl w18'.heap.size w18').alloc (Nat.le_refl _) (.cells #[.int .i64 0, .int .i64 0, .int .i64 0, .int .i64 0, .int .i64 0, .slice none 0 0, .slice none 0 0, .int .i64 0, .slice none 0 0, .int .i64 0, .int .i64 0] 31)).drew); ⟨h.os, h.tape, h.output, h.size, h.block⟩)
        have B_h0 : Blk ((w18'.alloc (.cells #[.int .i64 0, .int .i64 0, .int .i64 0, .int .i64 0, .int .i64 0, .slice none 0 0, .slice none 0 0, .int .i64 0, .slice none 0 0, .int .i64 0, .int .i64 0] 31)).drew) w18'.heap.size 31 #[.int .i64 0, .int .i64 0, .int .i64 0, .int .i64 0, .int .i64 0, .slice none 0 0, .slice none 0 0, .int .i64 0, .slice none 0 0, .int .i64 0, .int .i64 0] := (Blk.new w18' 31 #[.int .i64 0, .int .i64 0, .int .i64 0, .int .i64 0, .int .i64 0, .slice none 0 0, .slice none 0 0, .int .i64 0, .slice none 0 0, .int .i64 0, .int .i64 0]).drew
        have hb_h0 : w18'.heap.size < ((w18'.alloc (.cells #[.int .i64 0, .int .i64 0, .int .i64 0, .int .i64 0, .int .i64 0, .slice none 0 0, .slice none 0 0, .int .i64 0, .slice none 0 0, .int .i64 0, .int .i64 0] 31)).drew).heap.size := by simp
        generalize ((w18'.alloc (.cells #[.int .i64 0, .int .i64 0, .int .i64 0, .int .i64 0, .int .i64 0, .slice none 0 0, .slice none 0 0, .int .i64 0, .slice none 0 0, .int .i64 0, .int .i64 0] 31)).drew) = wo8 at *
        replace B_p0 := Blk.below B_p0 uwo8
        replace B_p1 := Blk.below B_p1 uwo8
        have S_wo8 : w18'.drew.heap.size ≤ wo8.heap.size := uwo8.size
        replace U : Below w18'.heap.size w18' wo8 := U.trans (uwo8.mono U.size)
        clear uwo8
        obtain ⟨bx_h0, hbx_h0⟩ : ∃ n, n = w18'.heap.size := ⟨_, rfl⟩
        have hc_h0 : w18'.heap.size ≤ bx_h0 := Nat.le_of_eq hbx_h0.symm
        rw [← hbx_h0] at B_h0 hb_h0
        rw [← hbx_h0]
        clear hbx_h0
        refine hK.out _ _ ?_ (fun hHeld => ?_)
        · (exact ⟨B_p0, B_p1⟩)
        clear hK K
        (try simp only [Act.put, List.setIfInBounds_toArray, List.set_cons_zero, List.set_cons_succ])
        refine wpAnyH_ready (rs := [1]) (by kernel_rfl) (by simp) ?_
        refine AllReadyH.cons (o := { dst := some 96, op := _, type := _, pos := _, after := _, guard := _ }) rfl (fun K hK => ?_) ?_
        go_simp
        refine (toPlayer_o a0 p0 _ (z0.below (V_w18'.trans (U.mono V_w18'.size))) ht0).mono ?_
        rintro e wo1 ⟨x0, F_x0, rfl, ox0, uwo1⟩
        replace B_p0 := Blk.below B_p0 uwo1
        replace B_p1 := Blk.below B_p1 uwo1
        replace B_h0 := Blk.below B_h0 uwo1
        have S_wo1 : wo8.heap.size ≤ wo1.heap.size := uwo1.size
        replace U : Below w18'.heap.size w18' wo1 := U.trans (uwo1.mono U.size)
        clear uwo1
        refine hK.out _ _ ?_ (fun hHeld => ?_)
        · (exact ⟨B_p0, B_p1⟩)
        clear hK K
        (try simp only [Act.put, List.setIfInBounds_toArray, List.set_cons_zero, List.set_cons_succ])
        refine wpAnyH_ready (rs := [3]) (by kernel_rfl) (by simp) ?_
        refine AllReadyH.cons (o := { dst := some 98, op := _, type := _, pos := _, after := _, guard := _ }) rfl (fun K hK => ?_) ?_
        go_simp
        refine (toMessage_any _ _ _ _ _ l1 _ (z1.below (V_w18'.trans (U.mono V_w18'.size))) (by omega)).mono ?_
        rintro e wo3 ⟨x1, xc1, rfl, ox1, uwo3⟩
        replace B_p0 := Blk.below B_p0 uwo3
        replace B_p1 := Blk.below B_p1 uwo3
        replace B_h0 := Blk.below B_h0 uwo3
        replace ox0 := ox0.below uwo3
        have S_wo3 : wo1.heap.size ≤ wo3.heap.size := uwo3.size
        replace U : Below w18'.heap.size w18' wo3 := U.trans (uwo3.mono U.size)
        clear uwo3
        refine hK.out _ _ ?_ (fun hHeld => ?_)
        · (exact ⟨B_p0, B_p1⟩)
        clear hK K
        (try simp only [Act.put, List.setIfInBounds_toArray, List.set_cons_zero, List.set_cons_succ])
        refine wpAnyH_ready (rs := [4]) (by kernel_rfl) (by simp) ?_
        refine AllReadyH.cons (o := { dst := some 99, op := _, type := _, pos := _, after := _, guard := _ }) rfl (fun K hK => ?_) ?_
        go_simp
        refine (CI.out _ _ _ _ _ ox0.rd ox1.ints (LX.out.below (V_w18'.trans (U.mono V_w18'.size)))).mono ?_
        rintro e wo4 ⟨h0, F_h0, rfl, oh0, uwo4⟩
        have Q_oh0 := Lib.hid oh0.feet
        have N_h0_0 : ∀ k ∈ F_h0, k ≠ bx_h0 := fun k hk => by have := Q_oh0.out k hk; omega
        replace oh0 := oh0.lower (b' := w18'.heap.size) (by omega)
        replace B_p0 := Blk.below B_p0 uwo4
        replace B_p1 := Blk.below B_p1 uwo4
        replace B_h0 := Blk.below B_h0 uwo4
        have S_wo4 : wo3.heap.size ≤ wo4.heap.size := uwo4.size
        replace U : Below w18'.heap.size w18' wo4 := U.trans (uwo4.mono U.size)
        clear uwo4 ox0 ox1
        refine hK.out _ _ ?_ (fun hHeld => ?_)
        · (exact ⟨B_p0, B_p1⟩)
        clear hK K
        (try simp only [Act.put, List.setIfInBounds_toArray, List.set_cons_zero, List.set_cons_succ])
        refine wpAnyH_take (i := 5) (oi := { dst := some 94, op := _, type := _, pos := _, after := _, guard := _ }) (v := ?v5_28) rfl (by kernel_rfl) (by kernel_rfl) (by kernel_rfl) (fun _ _ _ h => h) (Or.inl ⟨by rfl, ?hy5_28⟩) hHeld ?rest5_28
        case hy5_28 => (intro w _; first | (go_simp; done) | (go_simp; with_reducible rfl) | (with_reducible rfl))
        (try simp only [Act.put, List.setIfInBounds_toArray, List.set_cons_zero, List.set_cons_succ])
        refine wpAnyH_take (i := 6) (oi := { dst := some 100, op := _, type := _, pos := _, after := _, guard := _ }) (v := ?v6_29) rfl (by kernel_rfl) (by kernel_rfl) (by kernel_rfl) (fun _ _ _ h => h) (Or.inl ⟨by rfl, ?hy6_29⟩) hHeld ?rest6_29
        case hy6_29 => (intro w _; first | (go_simp; done) | (go_simp; with_reducible rfl) | (with_reducible rfl))
        (try simp only [Act.put, List.setIfInBounds_toArray, List.set_cons_zero, List.set_cons_succ])
        refine wpAnyH_take (i := 7) (oi := { dst := some 101, op := _, type := _, pos := _, after := _, guard := _ }) (v := ?v7_30) rfl (by kernel_rfl) (by kernel_rfl) (by kernel_rfl) (fun _ _ _ h => h) (Or.inl ⟨by rfl, ?hy7_30⟩) hHeld ?rest7_30
        case hy7_30 => (intro w _; first | (go_simp; done) | (go_simp; with_reducible rfl) | (with_reducible rfl))
        (try simp only [Act.put, List.setIfInBounds_toArray, List.set_cons_zero, List.set_cons_succ])
        generalize wo4 = wT at *
        have S_T : w18'.heap.size ≤ wT.heap.size := U.size
        rotate_left 1
        exact AllReadyH.nil
        exact AllReadyH.nil
        exact AllReadyH.nil
        exact AllReadyH.nil
        all_goals
          have N_h0_0 : ∀ k ∈ F_h0, k ≠ bx_h0 := by first | assumption | exact (fun k hk => by have := Q_oh0.out k hk; omega)
          refine wpAnyH_ready (rs := [9]) (by kernel_rfl) (by simp) ?_
          refine AllReadyH.cons (o := { dst := none, op := _, type := _, pos := _, after := _, guard := _ }) rfl (fun K hK => ?_) ?_
          have c9_0 := B_h0.cell 0
          have c9_1 := B_h0.cell 1
          have c9_2 := B_h0.cell 2
          have c9_3 := B_h0.cell 3
          have c9_4 := B_h0.cell 4
          have c9_5 := B_h0.cell 5
          have c9_6 := B_h0.cell 6
          have c9_7 := B_h0.cell 7
          have c9_8 := B_h0.cell 8
          have c9_9 := B_h0.cell 9
          have c9_10 := B_h0.cell 10
          have f9_0 := B_h0.frozen 0
          have f9_1 := B_h0.frozen 1
          have f9_2 := B_h0.frozen 2
          have f9_3 := B_h0.frozen 3
          have f9_4 := B_h0.frozen 4
          have f9_5 := B_h0.frozen 5
          have f9_6 := B_h0.frozen 6
          have f9_7 := B_h0.frozen 7
          have f9_8 := B_h0.frozen 8
          have f9_9 := B_h0.frozen 9
          have f9_10 := B_h0.frozen 10
          go_simp
          have G : Only [bx_h0] wT (((((((((((wT.setCell ⟨bx_h0, 0, none⟩ (.int .i64 d0_0.P)).setCell ⟨bx_h0, 1, none⟩ (.int .i64 d0_0.party)).setCell ⟨bx_h0, 2, none⟩ (.int .i64 d0_0.input)).setCell ⟨bx_h0, 3, none⟩ (.int .i64 d0_0.mask)).setCell ⟨bx_h0, 4, none⟩ (.int .i64 d0_0.delta)).setCell ⟨bx_h0, 5, none⟩ (.slice h0.sa h0.sn h0.sc)).setCell ⟨bx_h0, 6, none⟩ (.slice h0.ka h0.kn h0.kc)).setCell ⟨bx_h0, 7, none⟩ (.int .i64 d0_0.step)).setCell ⟨bx_h0, 8, none⟩ (.slice h0.ha h0.hn h0.hc)).setCell ⟨bx_h0, 9, none⟩ (.int .i64 d0_0.status)).setCell ⟨bx_h0, 10, none⟩ (.int .i64 d0_0.out)) := ((((((((((((Only.refl [bx_h0] wT).setCell ⟨bx_h0, 0, none⟩ _ (by simp)).setCell ⟨bx_h0, 1, none⟩ _ (by simp)).setCell ⟨bx_h0, 2, none⟩ _ (by simp)).setCell ⟨bx_h0, 3, none⟩ _ (by simp)).setCell ⟨bx_h0, 4, none⟩ _ (by simp)).setCell ⟨bx_h0, 5, none⟩ _ (by simp)).setCell ⟨bx_h0, 6, none⟩ _ (by simp)).setCell ⟨bx_h0, 7, none⟩ _ (by simp)).setCell ⟨bx_h0, 8, none⟩ _ (by simp)).setCell ⟨bx_h0, 9, none⟩ _ (by simp)).setCell ⟨bx_h0, 10, none⟩ _ (by simp))
          replace B_h0 : Blk (wT.setCell ⟨bx_h0, 0, none⟩ (.int .i64 d0_0.P)) bx_h0 31 #[.int .i64 d0_0.P, .int .i64 0, .int .i64 0, .int .i64 0, .int .i64 0, .slice none 0 0, .slice none 0 0, .int .i64 0, .slice none 0 0, .int .i64 0, .int .i64 0] := B_h0.set_ 0 (.int .i64 d0_0.P)
          replace B_h0 : Blk ((wT.setCell ⟨bx_h0, 0, none⟩ (.int .i64 d0_0.P)).setCell ⟨bx_h0, 1, none⟩ (.int .i64 d0_0.party)) bx_h0 31 #[.int .i64 d0_0.P, .int .i64 d0_0.party, .int .i64 0, .int .i64 0, .int .i64 0, .slice none 0 0, .slice none 0 0, .int .i64 0, .slice none 0 0, .int .i64 0, .int .i64 0] := B_h0.set_ 1 (.int .i64 d0_0.party)
          replace B_h0 : Blk (((wT.setCell ⟨bx_h0, 0, none⟩ (.int .i64 d0_0.P)).setCell ⟨bx_h0, 1, none⟩ (.int .i64 d0_0.party)).setCell ⟨bx_h0, 2, none⟩ (.int .i64 d0_0.input)) bx_h0 31 #[.int .i64 d0_0.P, .int .i64 d0_0.party, .int .i64 d0_0.input, .int .i64 0, .int .i64 0, .slice none 0 0, .slice none 0 0, .int .i64 0, .slice none 0 0, .int .i64 0, .int .i64 0] := B_h0.set_ 2 (.int .i64 d0_0.input)
          replace B_h0 : Blk ((((wT.setCell ⟨bx_h0, 0, none⟩ (.int .i64 d0_0.P)).setCell ⟨bx_h0, 1, none⟩ (.int .i64 d0_0.party)).setCell ⟨bx_h0, 2, none⟩ (.int .i64 d0_0.input)).setCell ⟨bx_h0, 3, none⟩ (.int .i64 d0_0.mask)) bx_h0 31 #[.int .i64 d0_0.P, .int .i64 d0_0.party, .int .i64 d0_0.input, .int .i64 d0_0.mask, .int .i64 0, .slice none 0 0, .slice none 0 0, .int .i64 0, .slice none 0 0, .int .i64 0, .int .i64 0] := B_h0.set_ 3 (.int .i64 d0_0.mask)
          replace B_h0 : Blk (((((wT.setCell ⟨bx_h0, 0, none⟩ (.int .i64 d0_0.P)).setCell ⟨bx_h0, 1, none⟩ (.int .i64 d0_0.party)).setCell ⟨bx_h0, 2, none⟩ (.int .i64 d0_0.input)).setCell ⟨bx_h0, 3, none⟩ (.int .i64 d0_0.mask)).setCell ⟨bx_h0, 4, none⟩ (.int .i64 d0_0.delta)) bx_h0 31 #[.int .i64 d0_0.P, .int .i64 d0_0.party, .int .i64 d0_0.input, .int .i64 d0_0.mask, .int .i64 d0_0.delta, .slice none 0 0, .slice none 0 0, .int .i64 0, .slice none 0 0, .int .i64 0, .int .i64 0] := B_h0.set_ 4 (.int .i64 d0_0.delta)
          replace B_h0 : Blk ((((((wT.setCell ⟨bx_h0, 0, none⟩ (.int .i64 d0_0.P)).setCell ⟨bx_h0, 1, none⟩ (.int .i64 d0_0.party)).setCell ⟨bx_h0, 2, none⟩ (.int .i64 d0_0.input)).setCell ⟨bx_h0, 3, none⟩ (.int .i64 d0_0.mask)).setCell ⟨bx_h0, 4, none⟩ (.int .i64 d0_0.delta)).setCell ⟨bx_h0, 5, none⟩ (.slice h0.sa h0.sn h0.sc)) bx_h0 31 #[.int .i64 d0_0.P, .int .i64 d0_0.party, .int .i64 d0_0.input, .int .i64 d0_0.mask, .int .i64 d0_0.delta, .slice h0.sa h0.sn h0.sc, .slice none 0 0, .int .i64 0, .slice none 0 0, .int .i64 0, .int .i64 0] := B_h0.set_ 5 (.slice h0.sa h0.sn h0.sc)
          replace B_h0 : Blk (((((((wT.setCell ⟨bx_h0, 0, none⟩ (.int .i64 d0_0.P)).setCell ⟨bx_h0, 1, none⟩ (.int .i64 d0_0.party)).setCell ⟨bx_h0, 2, none⟩ (.int .i64 d0_0.input)).setCell ⟨bx_h0, 3, none⟩ (.int .i64 d0_0.mask)).setCell ⟨bx_h0, 4, none⟩ (.int .i64 d0_0.delta)).setCell ⟨bx_h0, 5, none⟩ (.slice h0.sa h0.sn h0.sc)).setCell ⟨bx_h0, 6, none⟩ (.slice h0.ka h0.kn h0.kc)) bx_h0 31 #[.int .i64 d0_0.P, .int .i64 d0_0.party, .int .i64 d0_0.input, .int .i64 d0_0.mask, .int .i64 d0_0.delta, .slice h0.sa h0.sn h0.sc, .slice h0.ka h0.kn h0.kc, .int .i64 0, .slice none 0 0, .int .i64 0, .int .i64 0] := B_h0.set_ 6 (.slice h0.ka h0.kn h0.kc)
          replace B_h0 : Blk ((((((((wT.setCell ⟨bx_h0, 0, none⟩ (.int .i64 d0_0.P)).setCell ⟨bx_h0, 1, none⟩ (.int .i64 d0_0.party)).setCell ⟨bx_h0, 2, none⟩ (.int .i64 d0_0.input)).setCell ⟨bx_h0, 3, none⟩ (.int .i64 d0_0.mask)).setCell ⟨bx_h0, 4, none⟩ (.int .i64 d0_0.delta)).setCell ⟨bx_h0, 5, none⟩ (.slice h0.sa h0.sn h0.sc)).setCell ⟨bx_h0, 6, none⟩ (.slice h0.ka h0.kn h0.kc)).setCell ⟨bx_h0, 7, none⟩ (.int .i64 d0_0.step)) bx_h0 31 #[.int .i64 d0_0.P, .int .i64 d0_0.party, .int .i64 d0_0.input, .int .i64 d0_0.mask, .int .i64 d0_0.delta, .slice h0.sa h0.sn h0.sc, .slice h0.ka h0.kn h0.kc, .int .i64 d0_0.step, .slice none 0 0, .int .i64 0, .int .i64 0] := B_h0.set_ 7 (.int .i64 d0_0.step)
          replace B_h0 : Blk (((((((((wT.setCell ⟨bx_h0, 0, none⟩ (.int .i64 d0_0.P)).setCell ⟨bx_h0, 1, none⟩ (.int .i64 d0_0.party)).setCell ⟨bx_h0, 2, none⟩ (.int .i64 d0_0.input)).setCell ⟨bx_h0, 3, none⟩ (.int .i64 d0_0.mask)).setCell ⟨bx_h0, 4, none⟩ (.int .i64 d0_0.delta)).setCell ⟨bx_h0, 5, none⟩ (.slice h0.sa h0.sn h0.sc)).setCell ⟨bx_h0, 6, none⟩ (.slice h0.ka h0.kn h0.kc)).setCell ⟨bx_h0, 7, none⟩ (.int .i64 d0_0.step)).setCell ⟨bx_h0, 8, none⟩ (.slice h0.ha h0.hn h0.hc)) bx_h0 31 #[.int .i64 d0_0.P, .int .i64 d0_0.party, .int .i64 d0_0.input, .int .i64 d0_0.mask, .int .i64 d0_0.delta, .slice h0.sa h0.sn h0.sc, .slice h0.ka h0.kn h0.kc, .int .i64 d0_0.step, .slice h0.ha h0.hn h0.hc, .int .i64 0, .int .i64 0] := B_h0.set_ 8 (.slice h0.ha h0.hn h0.hc)
          replace B_h0 : Blk ((((((((((wT.setCell ⟨bx_h0, 0, none⟩ (.int .i64 d0_0.P)).setCell ⟨bx_h0, 1, none⟩ (.int .i64 d0_0.party)).setCell ⟨bx_h0, 2, none⟩ (.int .i64 d0_0.input)).setCell ⟨bx_h0, 3, none⟩ (.int .i64 d0_0.mask)).setCell ⟨bx_h0, 4, none⟩ (.int .i64 d0_0.delta)).setCell ⟨bx_h0, 5, none⟩ (.slice h0.sa h0.sn h0.sc)).setCell ⟨bx_h0, 6, none⟩ (.slice h0.ka h0.kn h0.kc)).setCell ⟨bx_h0, 7, none⟩ (.int .i64 d0_0.step)).setCell ⟨bx_h0, 8, none⟩ (.slice h0.ha h0.hn h0.hc)).setCell ⟨bx_h0, 9, none⟩ (.int .i64 d0_0.status)) bx_h0 31 #[.int .i64 d0_0.P, .int .i64 d0_0.party, .int .i64 d0_0.input, .int .i64 d0_0.mask, .int .i64 d0_0.delta, .slice h0.sa h0.sn h0.sc, .slice h0.ka h0.kn h0.kc, .int .i64 d0_0.step, .slice h0.ha h0.hn h0.hc, .int .i64 d0_0.status, .int .i64 0] := B_h0.set_ 9 (.int .i64 d0_0.status)
          replace B_h0 : Blk (((((((((((wT.setCell ⟨bx_h0, 0, none⟩ (.int .i64 d0_0.P)).setCell ⟨bx_h0, 1, none⟩ (.int .i64 d0_0.party)).setCell ⟨bx_h0, 2, none⟩ (.int .i64 d0_0.input)).setCell ⟨bx_h0, 3, none⟩ (.int .i64 d0_0.mask)).setCell ⟨bx_h0, 4, none⟩ (.int .i64 d0_0.delta)).setCell ⟨bx_h0, 5, none⟩ (.slice h0.sa h0.sn h0.sc)).setCell ⟨bx_h0, 6, none⟩ (.slice h0.ka h0.kn h0.kc)).setCell ⟨bx_h0, 7, none⟩ (.int .i64 d0_0.step)).setCell ⟨bx_h0, 8, none⟩ (.slice h0.ha h0.hn h0.hc)).setCell ⟨bx_h0, 9, none⟩ (.int .i64 d0_0.status)).setCell ⟨bx_h0, 10, none⟩ (.int .i64 d0_0.out)) bx_h0 31 #[.int .i64 d0_0.P, .int .i64 d0_0.party, .int .i64 d0_0.input, .int .i64 d0_0.mask, .int .i64 d0_0.delta, .slice h0.sa h0.sn h0.sc, .slice h0.ka h0.kn h0.kc, .int .i64 d0_0.step, .slice h0.ha h0.hn h0.hc, .int .i64 d0_0.status, .int .i64 d0_0.out] := B_h0.set_ 10 (.int .i64 d0_0.out)
          clear c9_0 f9_0 c9_1 f9_1 c9_2 f9_2 c9_3 f9_3 c9_4 f9_4 c9_5 f9_5 c9_6 f9_6 c9_7 f9_7 c9_8 f9_8 c9_9 f9_9 c9_10 f9_10
          replace B_p0 := B_p0.only G (by simp; omega)
          replace B_p1 := B_p1.only G (by simp; omega)
          replace oh0 := oh0.only G (fun k hk hk' => by have := N_h0_0 k hk; simp at hk'; omega)
          replace U : Below w18'.heap.size w18' (((((((((((wT.setCell ⟨bx_h0, 0, none⟩ (.int .i64 d0_0.P)).setCell ⟨bx_h0, 1, none⟩ (.int .i64 d0_0.party)).setCell ⟨bx_h0, 2, none⟩ (.int .i64 d0_0.input)).setCell ⟨bx_h0, 3, none⟩ (.int .i64 d0_0.mask)).setCell ⟨bx_h0, 4, none⟩ (.int .i64 d0_0.delta)).setCell ⟨bx_h0, 5, none⟩ (.slice h0.sa h0.sn h0.sc)).setCell ⟨bx_h0, 6, none⟩ (.slice h0.ka h0.kn h0.kc)).setCell ⟨bx_h0, 7, none⟩ (.int .i64 d0_0.step)).setCell ⟨bx_h0, 8, none⟩ (.slice h0.ha h0.hn h0.hc)).setCell ⟨bx_h0, 9, none⟩ (.int .i64 d0_0.status)).setCell ⟨bx_h0, 10, none⟩ (.int .i64 d0_0.out)) := U.trans (G.below (by omega) (fun k hk => by simp at hk; omega))
          have SG9 : wT.heap.size ≤ (((((((((((wT.setCell ⟨bx_h0, 0, none⟩ (.int .i64 d0_0.P)).setCell ⟨bx_h0, 1, none⟩ (.int .i64 d0_0.party)).setCell ⟨bx_h0, 2, none⟩ (.int .i64 d0_0.input)).setCell ⟨bx_h0, 3, none⟩ (.int .i64 d0_0.mask)).setCell ⟨bx_h0, 4, none⟩ (.int .i64 d0_0.delta)).setCell ⟨bx_h0, 5, none⟩ (.slice h0.sa h0.sn h0.sc)).setCell ⟨bx_h0, 6, none⟩ (.slice h0.ka h0.kn h0.kc)).setCell ⟨bx_h0, 7, none⟩ (.int .i64 d0_0.step)).setCell ⟨bx_h0, 8, none⟩ (.slice h0.ha h0.hn h0.hc)).setCell ⟨bx_h0, 9, none⟩ (.int .i64 d0_0.status)).setCell ⟨bx_h0, 10, none⟩ (.int .i64 d0_0.out)).heap.size := G.size
          clear G
          generalize (((((((((((wT.setCell ⟨bx_h0, 0, none⟩ (.int .i64 d0_0.P)).setCell ⟨bx_h0, 1, none⟩ (.int .i64 d0_0.party)).setCell ⟨bx_h0, 2, none⟩ (.int .i64 d0_0.input)).setCell ⟨bx_h0, 3, none⟩ (.int .i64 d0_0.mask)).setCell ⟨bx_h0, 4, none⟩ (.int .i64 d0_0.delta)).setCell ⟨bx_h0, 5, none⟩ (.slice h0.sa h0.sn h0.sc)).setCell ⟨bx_h0, 6, none⟩ (.slice h0.ka h0.kn h0.kc)).setCell ⟨bx_h0, 7, none⟩ (.int .i64 d0_0.step)).setCell ⟨bx_h0, 8, none⟩ (.slice h0.ha h0.hn h0.hc)).setCell ⟨bx_h0, 9, none⟩ (.int .i64 d0_0.status)).setCell ⟨bx_h0, 10, none⟩ (.int .i64 d0_0.out)) = wS9 at *
          refine hK.out _ _ ?_ (fun hHeld => ?_)
          · (exact ⟨B_p0, B_p1⟩)
          clear hK K
          (try simp only [Act.put, List.setIfInBounds_toArray, List.set_cons_zero, List.set_cons_succ])
          refine wpAnyH_take (i := 10) (oi := { dst := some 16, op := _, type := _, pos := _, after := _, guard := _ }) (v := .bool d1_0) rfl (by kernel_rfl) (by kernel_rfl) (by kernel_rfl) (fun _ _ _ h => h) (Or.inl ⟨by rfl, by intro w hSw; obtain ⟨qS0, qS1⟩ := hSw; have cS0_0 := qS0.cell 0; have cS0_1 := qS0.cell 1; have cS0_2 := qS0.cell 2; have cS0_3 := qS0.cell 3; have cS0_4 := qS0.cell 4; have cS0_5 := qS0.cell 5; have cS0_6 := qS0.cell 6; have cS0_7 := qS0.cell 7; have cS0_8 := qS0.cell 8; have cS0_9 := qS0.cell 9; have cS0_10 := qS0.cell 10; have cS1_0 := qS1.cell 0; have cS1_1 := qS1.cell 1; have cS1_2 := qS1.cell 2; first | (go_simp; done) | (go_simp; with_reducible rfl) | (with_reducible rfl)⟩) hHeld ?_
          (try simp only [Act.put, List.setIfInBounds_toArray, List.set_cons_zero, List.set_cons_succ])
          refine wpAnyH_done (by kernel_rfl) ?_ _
          refine NoPanic.normal ?_
          rotate_left 1
          exact AllReadyH.nil
          try go_wp2_with fail
          go_meet
          exact ⟨h0, F_h0, bx_h0, rfl, rfl, oh0, fun k hk => ⟨oh0.feet k hk, N_h0_0 k hk⟩, B_h0, ⟨by omega, by omega⟩, U⟩
      obtain ⟨h0, F_h0, bx_h0, rfl, rfl, oh0, Q_oh0, B_h0, hb_h0, u_all⟩ := hcut
      generalize wc = w19' at *
      replace B_p0 := B_p0.below u_all
      replace B_p1 := B_p1.below u_all
      replace B_r0 := B_r0.below u_all
      replace B_g0 := B_g0.below u_all
      replace or0 := or0.below u_all
      replace og0 := og0.below u_all
      have V_w19' := V_w18'.trans (u_all.mono (V_w18').size)
      have S_w19' := u_all.size
      clear u_all V_w18'
      replace Q_oh0 := Lib.hid Q_oh0
      have e_h0_0 : w19'.cell? ⟨bx_h0, 0, none⟩ = some (.int .i64 d0_0.P) := B_h0.cell 0
      have e_h0_1 : w19'.cell? ⟨bx_h0, 1, none⟩ = some (.int .i64 d0_0.party) := B_h0.cell 1
      have e_h0_2 : w19'.cell? ⟨bx_h0, 2, none⟩ = some (.int .i64 d0_0.input) := B_h0.cell 2
      have e_h0_3 : w19'.cell? ⟨bx_h0, 3, none⟩ = some (.int .i64 d0_0.mask) := B_h0.cell 3
      have e_h0_4 : w19'.cell? ⟨bx_h0, 4, none⟩ = some (.int .i64 d0_0.delta) := B_h0.cell 4
      have e_h0_5 : w19'.cell? ⟨bx_h0, 5, none⟩ = some (.slice h0.sa h0.sn h0.sc) := B_h0.cell 5
      have e_h0_6 : w19'.cell? ⟨bx_h0, 6, none⟩ = some (.slice h0.ka h0.kn h0.kc) := B_h0.cell 6
      have e_h0_7 : w19'.cell? ⟨bx_h0, 7, none⟩ = some (.int .i64 d0_0.step) := B_h0.cell 7
      have e_h0_8 : w19'.cell? ⟨bx_h0, 8, none⟩ = some (.slice h0.ha h0.hn h0.hc) := B_h0.cell 8
      have e_h0_9 : w19'.cell? ⟨bx_h0, 9, none⟩ = some (.int .i64 d0_0.status) := B_h0.cell 9
      have e_h0_10 : w19'.cell? ⟨bx_h0, 10, none⟩ = some (.int .i64 d0_0.out) := B_h0.cell 10
      have e_r0_0 : w19'.cell? ⟨bx_r0, 0, none⟩ = some (.int .i64 d0_0.P) := B_r0.cell 0
      have e_r0_1 : w19'.cell? ⟨bx_r0, 1, none⟩ = some (.int .i64 d0_0.party) := B_r0.cell 1
      have e_r0_2 : w19'.cell? ⟨bx_r0, 2, none⟩ = some (.int .i64 d0_0.input) := B_r0.cell 2
      have e_r0_3 : w19'.cell? ⟨bx_r0, 3, none⟩ = some (.int .i64 d0_0.mask) := B_r0.cell 3
      have e_r0_4 : w19'.cell? ⟨bx_r0, 4, none⟩ = some (.int .i64 d0_0.delta) := B_r0.cell 4
      have e_r0_5 : w19'.cell? ⟨bx_r0, 5, none⟩ = some (.slice r0.sa r0.sn r0.sc) := B_r0.cell 5
      have e_r0_6 : w19'.cell? ⟨bx_r0, 6, none⟩ = some (.slice r0.ka r0.kn r0.kc) := B_r0.cell 6
      have e_r0_7 : w19'.cell? ⟨bx_r0, 7, none⟩ = some (.int .i64 d0_0.step) := B_r0.cell 7
      have e_r0_8 : w19'.cell? ⟨bx_r0, 8, none⟩ = some (.slice r0.ha r0.hn r0.hc) := B_r0.cell 8
      have e_r0_9 : w19'.cell? ⟨bx_r0, 9, none⟩ = some (.int .i64 d0_0.status) := B_r0.cell 9
      have e_r0_10 : w19'.cell? ⟨bx_r0, 10, none⟩ = some (.int .i64 d0_0.out) := B_r0.cell 10
      go_wp2_with fail
      clear e_h0_0 e_h0_1 e_h0_2 e_h0_3 e_h0_4 e_h0_5 e_h0_6 e_h0_7 e_h0_8 e_h0_9 e_h0_10 e_r0_0 e_r0_1 e_r0_2 e_r0_3 e_r0_4 e_r0_5 e_r0_6 e_r0_7 e_r0_8 e_r0_9 e_r0_10
      refine (eqPlayer_o d0_0 _ _ _ oh0.rd or0.rd).mono ?_
      rintro e w20' ⟨rfl, u_w20'⟩
      replace B_p0 := B_p0.below u_w20'
      replace B_p1 := B_p1.below u_w20'
      replace B_r0 := B_r0.below u_w20'
      replace B_g0 := B_g0.below u_w20'
      replace B_h0 := B_h0.below u_w20'
      replace or0 := or0.below u_w20'
      replace og0 := og0.below u_w20'
      replace oh0 := oh0.below u_w20'
      have V_w20' := V_w19'.trans (u_w20'.mono (V_w19').size)
      have S_w20' := u_w20'.size
      clear u_w20' V_w19'
      have e_g0_0 : w20'.cell? ⟨w9'.heap.size, 0, none⟩ = some (.int .i64 d0_0.P) := B_g0.cell 0
      have e_g0_1 : w20'.cell? ⟨w9'.heap.size, 1, none⟩ = some (.int .i64 d0_0.party) := B_g0.cell 1
      have e_g0_2 : w20'.cell? ⟨w9'.heap.size, 2, none⟩ = some (.int .i64 d0_0.input) := B_g0.cell 2
      have e_g0_3 : w20'.cell? ⟨w9'.heap.size, 3, none⟩ = some (.int .i64 d0_0.mask) := B_g0.cell 3
      have e_g0_4 : w20'.cell? ⟨w9'.heap.size, 4, none⟩ = some (.int .i64 d0_0.delta) := B_g0.cell 4
      have e_g0_5 : w20'.cell? ⟨w9'.heap.size, 5, none⟩ = some (.slice g0.sa g0.sn g0.sc) := B_g0.cell 5
      have e_g0_6 : w20'.cell? ⟨w9'.heap.size, 6, none⟩ = some (.slice g0.ka g0.kn g0.kc) := B_g0.cell 6
      have e_g0_7 : w20'.cell? ⟨w9'.heap.size, 7, none⟩ = some (.int .i64 d0_0.step) := B_g0.cell 7
      have e_g0_8 : w20'.cell? ⟨w9'.heap.size, 8, none⟩ = some (.slice g0.ha g0.hn g0.hc) := B_g0.cell 8
      have e_g0_9 : w20'.cell? ⟨w9'.heap.size, 9, none⟩ = some (.int .i64 d0_0.status) := B_g0.cell 9
      have e_g0_10 : w20'.cell? ⟨w9'.heap.size, 10, none⟩ = some (.int .i64 d0_0.out) := B_g0.cell 10
      go_wp2_with fail
      clear e_g0_0 e_g0_1 e_g0_2 e_g0_3 e_g0_4 e_g0_5 e_g0_6 e_g0_7 e_g0_8 e_g0_9 e_g0_10
      refine (heldPlayer_o _ _ _ _ _ _ _ og0.rd U_og0.out (by omega) (by omega)).mono ?_
      rintro e w21' ⟨rfl, u_w21'⟩
      replace B_p0 := B_p0.below u_w21'
      replace B_p1 := B_p1.below u_w21'
      replace B_r0 := B_r0.below u_w21'
      replace B_g0 := B_g0.below u_w21'
      replace B_h0 := B_h0.below u_w21'
      replace or0 := or0.below u_w21'
      replace og0 := og0.below u_w21'
      replace oh0 := oh0.below u_w21'
      have V_w21' := V_w20'.trans (u_w21'.mono (V_w20').size)
      have S_w21' := u_w21'.size
      clear u_w21' V_w20'
      go_wp2
      go_ret
      exact ⟨rfl, V_w21'⟩
    · skip
      go_enter Tryd.func8, Tryd.ntmps8
      go_wp2_with fail
      have V_w22' : Below w.heap.size w ((w.alloc (.cells #[.int .i64 a0.P, .int .i64 a0.party, .int .i64 a0.input, .int .i64 a0.mask, .int .i64 a0.delta, .slice p0.sa p0.sn p0.sc, .slice p0.ka p0.kn p0.kc, .int .i64 a0.step, .slice p0.ha p0.hn p0.hc, .int .i64 a0.status, .int .i64 a0.out] 26)).alloc (.cells #[.int .i64 f1, .int .i64 s1, .slice p1 pn1 pc1] 53)) := (((((Below.refl w.heap.size w)).alloc (by have := ((Below.refl w.heap.size w)).size; first | exact this | (simp; omega) | simp) _)).alloc (by have := ((Below.refl w.heap.size w)).size; first | exact this | (simp; omega) | simp) _)
      have B_p0 : Blk ((w.alloc (.cells #[.int .i64 a0.P, .int .i64 a0.party, .int .i64 a0.input, .int .i64 a0.mask, .int .i64 a0.delta, .slice p0.sa p0.sn p0.sc, .slice p0.ka p0.kn p0.kc, .int .i64 a0.step, .slice p0.ha p0.hn p0.hc, .int .i64 a0.status, .int .i64 a0.out] 26)).alloc (.cells #[.int .i64 f1, .int .i64 s1, .slice p1 pn1 pc1] 53)) (w.heap.size) 26 #[.int .i64 a0.P, .int .i64 a0.party, .int .i64 a0.input, .int .i64 a0.mask, .int .i64 a0.delta, .slice p0.sa p0.sn p0.sc, .slice p0.ka p0.kn p0.kc, .int .i64 a0.step, .slice p0.ha p0.hn p0.hc, .int .i64 a0.status, .int .i64 a0.out] := by simpa using ((Blk.new w 26 #[.int .i64 a0.P, .int .i64 a0.party, .int .i64 a0.input, .int .i64 a0.mask, .int .i64 a0.delta, .slice p0.sa p0.sn p0.sc, .slice p0.ka p0.kn p0.kc, .int .i64 a0.step, .slice p0.ha p0.hn p0.hc, .int .i64 a0.status, .int .i64 a0.out]).alloc _ : Blk ((w.alloc (.cells #[.int .i64 a0.P, .int .i64 a0.party, .int .i64 a0.input, .int .i64 a0.mask, .int .i64 a0.delta, .slice p0.sa p0.sn p0.sc, .slice p0.ka p0.kn p0.kc, .int .i64 a0.step, .slice p0.ha p0.hn p0.hc, .int .i64 a0.status, .int .i64 a0.out] 26)).alloc (.cells #[.int .i64 f1, .int .i64 s1, .slice p1 pn1 pc1] 53)) _ _ _)
      have B_p1 : Blk ((w.alloc (.cells #[.int .i64 a0.P, .int .i64 a0.party, .int .i64 a0.input, .int .i64 a0.mask, .int .i64 a0.delta, .slice p0.sa p0.sn p0.sc, .slice p0.ka p0.kn p0.kc, .int .i64 a0.step, .slice p0.ha p0.hn p0.hc, .int .i64 a0.status, .int .i64 a0.out] 26)).alloc (.cells #[.int .i64 f1, .int .i64 s1, .slice p1 pn1 pc1] 53)) (w.heap.size + 1) 53 #[.int .i64 f1, .int .i64 s1, .slice p1 pn1 pc1] := by simpa using ((Blk.new (w.alloc (.cells #[.int .i64 a0.P, .int .i64 a0.party, .int .i64 a0.input, .int .i64 a0.mask, .int .i64 a0.delta, .slice p0.sa p0.sn p0.sc, .slice p0.ka p0.kn p0.kc, .int .i64 a0.step, .slice p0.ha p0.hn p0.hc, .int .i64 a0.status, .int .i64 a0.out] 26)) 53 #[.int .i64 f1, .int .i64 s1, .slice p1 pn1 pc1]) : Blk ((w.alloc (.cells #[.int .i64 a0.P, .int .i64 a0.party, .int .i64 a0.input, .int .i64 a0.mask, .int .i64 a0.delta, .slice p0.sa p0.sn p0.sc, .slice p0.ka p0.kn p0.kc, .int .i64 a0.step, .slice p0.ha p0.hn p0.hc, .int .i64 a0.status, .int .i64 a0.out] 26)).alloc (.cells #[.int .i64 f1, .int .i64 s1, .slice p1 pn1 pc1] 53)) _ _ _)
      have S_w22' : w.heap.size + 2 ≤ ((w.alloc (.cells #[.int .i64 a0.P, .int .i64 a0.party, .int .i64 a0.input, .int .i64 a0.mask, .int .i64 a0.delta, .slice p0.sa p0.sn p0.sc, .slice p0.ka p0.kn p0.kc, .int .i64 a0.step, .slice p0.ha p0.hn p0.hc, .int .i64 a0.status, .int .i64 a0.out] 26)).alloc (.cells #[.int .i64 f1, .int .i64 s1, .slice p1 pn1 pc1] 53)).heap.size := by simp
      generalize ((w.alloc (.cells #[.int .i64 a0.P, .int .i64 a0.party, .int .i64 a0.input, .int .i64 a0.mask, .int .i64 a0.delta, .slice p0.sa p0.sn p0.sc, .slice p0.ka p0.kn p0.kc, .int .i64 a0.step, .slice p0.ha p0.hn p0.hc, .int .i64 a0.status, .int .i64 a0.out] 26)).alloc (.cells #[.int .i64 f1, .int .i64 s1, .slice p1 pn1 pc1] 53)) = w22' at *
      refine (szPlayer_o_yes a0 p0 (1048576) _ (z0.below V_w22') (by omega) (by omega)).mono ?_
      rintro e w23' ⟨rfl, u_w23'⟩
      replace B_p0 := B_p0.below u_w23'
      replace B_p1 := B_p1.below u_w23'
      have V_w23' := V_w22'.trans (u_w23'.mono (V_w22').size)
      have S_w23' := u_w23'.size
      clear u_w23' V_w22'
      have e_p1_0 : w23'.cell? ⟨w.heap.size + 1, 0, none⟩ = some (.int .i64 f1) := B_p1.cell 0
      have e_p1_1 : w23'.cell? ⟨w.heap.size + 1, 1, none⟩ = some (.int .i64 s1) := B_p1.cell 1
      have e_p1_2 : w23'.cell? ⟨w.heap.size + 1, 2, none⟩ = some (.slice p1 pn1 pc1) := B_p1.cell 2
      go_wp2_with fail
      clear e_p1_0 e_p1_1 e_p1_2
      refine (szMessage_no _ _ _ _ _ (1048576 - (szP p0 a0.shares a0.keys a0.heard : Int)) _ hn1 (by omega) (by omega) (by omega)).mono ?_
      rintro e w24' ⟨rfl, u_w24'⟩
      replace B_p0 := B_p0.below u_w24'
      replace B_p1 := B_p1.below u_w24'
      have V_w24' := V_w23'.trans (u_w24'.mono (V_w23').size)
      have S_w24' := u_w24'.size
      clear u_w24' V_w23'
      go_wp2
      go_ret
      exact ⟨rfl, V_w24'⟩
  · skip
    go_enter Tryd.func8, Tryd.ntmps8
    go_wp2_with fail
    have V_w25' : Below w.heap.size w ((w.alloc (.cells #[.int .i64 a0.P, .int .i64 a0.party, .int .i64 a0.input, .int .i64 a0.mask, .int .i64 a0.delta, .slice p0.sa p0.sn p0.sc, .slice p0.ka p0.kn p0.kc, .int .i64 a0.step, .slice p0.ha p0.hn p0.hc, .int .i64 a0.status, .int .i64 a0.out] 26)).alloc (.cells #[.int .i64 f1, .int .i64 s1, .slice p1 pn1 pc1] 53)) := (((((Below.refl w.heap.size w)).alloc (by have := ((Below.refl w.heap.size w)).size; first | exact this | (simp; omega) | simp) _)).alloc (by have := ((Below.refl w.heap.size w)).size; first | exact this | (simp; omega) | simp) _)
    have B_p0 : Blk ((w.alloc (.cells #[.int .i64 a0.P, .int .i64 a0.party, .int .i64 a0.input, .int .i64 a0.mask, .int .i64 a0.delta, .slice p0.sa p0.sn p0.sc, .slice p0.ka p0.kn p0.kc, .int .i64 a0.step, .slice p0.ha p0.hn p0.hc, .int .i64 a0.status, .int .i64 a0.out] 26)).alloc (.cells #[.int .i64 f1, .int .i64 s1, .slice p1 pn1 pc1] 53)) (w.heap.size) 26 #[.int .i64 a0.P, .int .i64 a0.party, .int .i64 a0.input, .int .i64 a0.mask, .int .i64 a0.delta, .slice p0.sa p0.sn p0.sc, .slice p0.ka p0.kn p0.kc, .int .i64 a0.step, .slice p0.ha p0.hn p0.hc, .int .i64 a0.status, .int .i64 a0.out] := by simpa using ((Blk.new w 26 #[.int .i64 a0.P, .int .i64 a0.party, .int .i64 a0.input, .int .i64 a0.mask, .int .i64 a0.delta, .slice p0.sa p0.sn p0.sc, .slice p0.ka p0.kn p0.kc, .int .i64 a0.step, .slice p0.ha p0.hn p0.hc, .int .i64 a0.status, .int .i64 a0.out]).alloc _ : Blk ((w.alloc (.cells #[.int .i64 a0.P, .int .i64 a0.party, .int .i64 a0.input, .int .i64 a0.mask, .int .i64 a0.delta, .slice p0.sa p0.sn p0.sc, .slice p0.ka p0.kn p0.kc, .int .i64 a0.step, .slice p0.ha p0.hn p0.hc, .int .i64 a0.status, .int .i64 a0.out] 26)).alloc (.cells #[.int .i64 f1, .int .i64 s1, .slice p1 pn1 pc1] 53)) _ _ _)
    have B_p1 : Blk ((w.alloc (.cells #[.int .i64 a0.P, .int .i64 a0.party, .int .i64 a0.input, .int .i64 a0.mask, .int .i64 a0.delta, .slice p0.sa p0.sn p0.sc, .slice p0.ka p0.kn p0.kc, .int .i64 a0.step, .slice p0.ha p0.hn p0.hc, .int .i64 a0.status, .int .i64 a0.out] 26)).alloc (.cells #[.int .i64 f1, .int .i64 s1, .slice p1 pn1 pc1] 53)) (w.heap.size + 1) 53 #[.int .i64 f1, .int .i64 s1, .slice p1 pn1 pc1] := by simpa using ((Blk.new (w.alloc (.cells #[.int .i64 a0.P, .int .i64 a0.party, .int .i64 a0.input, .int .i64 a0.mask, .int .i64 a0.delta, .slice p0.sa p0.sn p0.sc, .slice p0.ka p0.kn p0.kc, .int .i64 a0.step, .slice p0.ha p0.hn p0.hc, .int .i64 a0.status, .int .i64 a0.out] 26)) 53 #[.int .i64 f1, .int .i64 s1, .slice p1 pn1 pc1]) : Blk ((w.alloc (.cells #[.int .i64 a0.P, .int .i64 a0.party, .int .i64 a0.input, .int .i64 a0.mask, .int .i64 a0.delta, .slice p0.sa p0.sn p0.sc, .slice p0.ka p0.kn p0.kc, .int .i64 a0.step, .slice p0.ha p0.hn p0.hc, .int .i64 a0.status, .int .i64 a0.out] 26)).alloc (.cells #[.int .i64 f1, .int .i64 s1, .slice p1 pn1 pc1] 53)) _ _ _)
    have S_w25' : w.heap.size + 2 ≤ ((w.alloc (.cells #[.int .i64 a0.P, .int .i64 a0.party, .int .i64 a0.input, .int .i64 a0.mask, .int .i64 a0.delta, .slice p0.sa p0.sn p0.sc, .slice p0.ka p0.kn p0.kc, .int .i64 a0.step, .slice p0.ha p0.hn p0.hc, .int .i64 a0.status, .int .i64 a0.out] 26)).alloc (.cells #[.int .i64 f1, .int .i64 s1, .slice p1 pn1 pc1] 53)).heap.size := by simp
    generalize ((w.alloc (.cells #[.int .i64 a0.P, .int .i64 a0.party, .int .i64 a0.input, .int .i64 a0.mask, .int .i64 a0.delta, .slice p0.sa p0.sn p0.sc, .slice p0.ka p0.kn p0.kc, .int .i64 a0.step, .slice p0.ha p0.hn p0.hc, .int .i64 a0.status, .int .i64 a0.out] 26)).alloc (.cells #[.int .i64 f1, .int .i64 s1, .slice p1 pn1 pc1] 53)) = w25' at *
    refine (szPlayer_o_no a0 p0 (1048576) _ (z0.below V_w25') (by omega) (by omega) (by omega)).mono ?_
    rintro e w26' ⟨rfl, u_w26'⟩
    replace B_p0 := B_p0.below u_w26'
    replace B_p1 := B_p1.below u_w26'
    have V_w26' := V_w25'.trans (u_w26'.mono (V_w25').size)
    have S_w26' := u_w26'.size
    clear u_w26' V_w25'
    go_wp2
    go_ret
    exact ⟨rfl, V_w26'⟩
end Go.Proofs.YtlmdckcohoddnaaDoor
