/- Meddles by the reference, at every p. -/
import Derived.Test.YtjndhgjmnoiegaaDoorMed
namespace Go.Proofs.YtjndhgjmnoiegaaDoor
open Go.RowKit
set_option maxHeartbeats 4000000 in
set_option maxRecDepth 100000 in
theorem nwOne_q (p kd at_ ix vl pq : Int) (w : World) (tp : IntKind.i64.wrap (p - 1) = pq) :
    Calls Tryd.prog 21 #[.int .i64 p, .agg #[.int .i64 kd, .int .i64 at_, .int .i64 ix, .int .i64 vl]] w fun e w' => e = .returned (.bool (medB (pq + 1) kd at_ ix vl)) ∧ Below w.heap.size w w' := by

  have V0 : Below w.heap.size w (w.alloc (.cells #[.int .i64 kd, .int .i64 at_, .int .i64 ix, .int .i64 vl] 35)) := (Below.refl _ _).alloc (Nat.le_refl _) _
  have B_m : Blk (w.alloc (.cells #[.int .i64 kd, .int .i64 at_, .int .i64 ix, .int .i64 vl] 35)) w.heap.size 35 #[.int .i64 kd, .int .i64 at_, .int .i64 ix, .int .i64 vl] := Blk.new w _ _
  unfold medB
  cases h1 : inB at_ 0 5
  · simp only [Bool.false_and]
    go_enter Tryd.func21, Tryd.ntmps21
    go_wp2_with (first | (go_at_call 20; refine (l1In_any _ _ _ _).mono ?_; rintro e w' ⟨rfl, rfl⟩; rw [h1]))
    go_ret
    exact ⟨rfl, V0⟩
  have A0 := inB_true h1
  simp only [Bool.true_and]







  by_cases k1 : kd = 1
  · subst k1
    have h14 : inB 1 1 4 = true := inB_yes (by omega) (by omega)
    rw [if_pos rfl, h14]
    simp only [Bool.true_and]
    clear h14
    obtain ⟨q, hq⟩ : ∃ q : Nat, (q : Int) = at_ / 2 := ⟨(at_ / 2).toNat, by omega⟩
    have hq3 : q < 3 := by omega
    have td : at_.tdiv 2 = (q : Int) := by rw [hq]; exact Int.tdiv_eq_ediv_of_nonneg A0.1
    have hqq : (at_ / 2).toNat = q := by omega
    rw [hqq]
    have bb := blen_bd q
    have td2 : IntKind.i64.wrap (q : Int) = (q : Int) := IntWalk.i64_in _ (by omega)
    have hpq : pq = pq + 1 - 1 := by omega
    obtain ⟨bq, hbq⟩ : ∃ x, x = (blen q : Int) - 1 := ⟨_, rfl⟩
    have tw : IntKind.i64.wrap ((blen q : Int) - 1) = bq := by rw [hbq]; exact IntWalk.i64_in _ (by omega)
    have tp' : wrap64 (p - 1) = pq := by rw [← tp, IntKind.wrap_i64]; unfold wrap64; rfl
    have tw' : wrap64 ((blen q : Int) - 1) = bq := by rw [hbq]; exact IntWalk.wrap64_in _ (by omega)
    rw [← hpq, ← hbq]
    have CX : ∀ W, Calls Tryd.prog 20 #[.int .i64 ix, .int .i64 0, .int .i64 bq] W (fun e w' => e = .returned (.bool (inB ix 0 bq)) ∧ W = w') := fun W => l1In_any _ _ _ _
    have CV : ∀ W, Calls Tryd.prog 20 #[.int .i64 vl, .int .i64 0, .int .i64 pq] W (fun e w' => e = .returned (.bool (inB vl 0 pq)) ∧ W = w') := fun W => l1In_any _ _ _ _
    clear hq hqq hpq hbq
    generalize inB vl 0 pq = bv at *
    go_enter Tryd.func21, Tryd.ntmps21
    go_wp2_with fail
    refine (l1In_any _ _ _ _).mono ?_; rintro e w' ⟨rfl, rfl⟩
    rw [h1]
    clear h1



















    cases h3 : inB ix 0 bq
    · skip
      rw [h3] at CX
      replace CX := Lib.hid CX
      replace CV := Lib.hid CV
      replace h3 := Lib.hid h3
      generalize (w.alloc (.cells #[.int .i64 1, .int .i64 at_, .int .i64 ix, .int .i64 vl] 35)) = w0 at *
      have CL := Lib.hid (fun W => ptLen_any q W hq3)
      have e0 := B_m.cell 0
      have e1 := B_m.cell 1
      go_wp2
      clear e0 e1
      refine wp_region_noPanic ?_
      refine wp_region_held_drew (S := (fun W => Blk W (w.heap.size) 35 #[.int .i64 1, .int .i64 at_, .int .i64 ix, .int .i64 vl])) (by kernel_rfl) ?hS1 (fun hHeld => ?go1)
      case hS1 => exact B_m.drew
      refine tk (i := 0) (oi := ⟨some 12, _, _, _, _, _⟩) (v := ?v0_2) hHeld rfl ?y0_2 ?r0_2
      case y0_2 => (intro w _; first | (go_simp; done) | (go_simp; with_reducible rfl) | (with_reducible rfl))
      (try simp only [pt_])
      refine tk (i := 1) (oi := ⟨some 13, _, _, _, _, _⟩) (v := ?v1_3) hHeld rfl ?y1_3 ?r1_3
      case y1_3 => (intro w qS0; have cS0 := qS0.all4; first | (go_simp; done) | (go_simp; with_reducible rfl) | (with_reducible rfl))
      (try simp only [pt_])
      refine tk (i := 2) (oi := ⟨some 14, _, _, _, _, _⟩) (v := ?v2_4) hHeld rfl ?y2_4 ?r2_4
      case y2_4 => (intro w _; first | (go_simp; done) | (go_simp; with_reducible rfl) | (with_reducible rfl))
      (try simp only [pt_])
      refine tk (i := 3) (oi := ⟨some 15, _, _, _, _, _⟩) (v := ?v3_5) hHeld rfl ?y3_5 ?r3_5
      case y3_5 => (intro w qS0; have cS0 := qS0.all4; first | (go_simp; done) | (go_simp; with_reducible rfl) | (with_reducible rfl))
      (try simp only [pt_])
      refine tk (i := 4) (oi := ⟨some 16, _, _, _, _, _⟩) (v := ?v4_6) hHeld rfl ?y4_6 ?r4_6
      case y4_6 => (intro w _; first | (go_simp; done) | (go_simp; with_reducible rfl) | (with_reducible rfl))
      (try simp only [pt_])
      refine wpAnyH_ready (rs := [5]) (by kernel_rfl) (by simp) ?_
      refine AllReadyH.cons (o := { dst := some 17, op := _, type := _, pos := _, after := _, guard := _ }) rfl (fun K hK => ?_) ?_
      go_simp
      refine (CL.out _).mono ?_
      rintro e wj ⟨rfl, uj⟩
      have K_m := Blk.below B_m.drew uj
      refine hK.out _ _ ?_ (fun hHeld => ?_)
      · exact K_m
      clear hK K
      (try simp only [pt_])
      refine tk (i := 6) (oi := ⟨some 18, _, _, _, _, _⟩) (v := ?v6_7) hHeld rfl ?y6_7 ?r6_7
      case y6_7 => (intro w _; first | (go_simp; done) | (go_simp; with_reducible rfl) | (with_reducible rfl))
      (try simp only [pt_])
      refine wpAnyH_ready (rs := [7]) (by kernel_rfl) (by simp) ?_
      refine AllReadyH.cons (o := { dst := some 19, op := _, type := _, pos := _, after := _, guard := _ }) rfl (fun K hK => ?_) ?_
      go_simp
      refine (CX.out _).mono ?_
      rintro e wk ⟨rfl, rfl⟩
      refine hK.out _ _ ?_ (fun hHeld => ?_)
      · exact K_m
      clear hK K
      (try simp only [pt_])
      refine tk (i := 8) (oi := ⟨some 20, _, _, _, _, _⟩) (v := ?v8_8) hHeld rfl ?y8_8 ?r8_8
      case y8_8 => (intro w _; first | (go_simp; done) | (go_simp; with_reducible rfl) | (with_reducible rfl))
      (try simp only [pt_])
      refine tko (i := 9) (oi := ⟨some 21, _, _, _, _, _⟩) hHeld rfl ?r9_9
      (try simp only [pt_])
      refine tko (i := 10) (oi := ⟨some 22, _, _, _, _, _⟩) hHeld rfl ?r10_10
      (try simp only [pt_])
      refine tko (i := 11) (oi := ⟨some 23, _, _, _, _, _⟩) hHeld rfl ?r11_11
      (try simp only [pt_])
      refine tko (i := 12) (oi := ⟨some 24, _, _, _, _, _⟩) hHeld rfl ?r12_12
      (try simp only [pt_])
      refine tko (i := 13) (oi := ⟨some 25, _, _, _, _, _⟩) hHeld rfl ?r13_13
      (try simp only [pt_])
      refine tk (i := 14) (oi := ⟨some 26, _, _, _, _, _⟩) (v := ?v14_14) hHeld rfl ?y14_14 ?r14_14
      case y14_14 => (intro w _; first | (go_simp; done) | (go_simp; with_reducible rfl) | (with_reducible rfl))
      (try simp only [pt_])
      refine tk (i := 15) (oi := ⟨some 4, _, _, _, _, _⟩) (v := ?v15_15) hHeld rfl ?y15_15 ?r15_15
      case y15_15 => (intro w _; first | (go_simp; done) | (go_simp; with_reducible rfl) | (with_reducible rfl))
      (try simp only [pt_])
      refine wpAnyH_done (by kernel_rfl) ?_ _
      refine NoPanic.normal ?_
      rotate_left 1
      exact AllReadyH.nil
      exact AllReadyH.nil
      have u9 : Below w0.heap.size w0 wj := (Below.refl _ _).drew.trans uj
      clear K_m
      go_wp2
      go_ret
      exact ⟨ret_bool (by rw [h3.out]; rfl), V0.trans (u9.mono V0.size)⟩
    · skip
      rw [h3] at CX
      replace CX := Lib.hid CX
      replace CV := Lib.hid CV
      replace h3 := Lib.hid h3
      generalize (w.alloc (.cells #[.int .i64 1, .int .i64 at_, .int .i64 ix, .int .i64 vl] 35)) = w0 at *
      have CL := Lib.hid (fun W => ptLen_any q W hq3)
      have e0 := B_m.cell 0
      have e1 := B_m.cell 1
      go_wp2
      clear e0 e1
      refine wp_region_noPanic ?_
      refine wp_region_held_drew (S := (fun W => Blk W (w.heap.size) 35 #[.int .i64 1, .int .i64 at_, .int .i64 ix, .int .i64 vl])) (by kernel_rfl) ?hS16 (fun hHeld => ?go16)
      case hS16 => exact B_m.drew
      refine tk (i := 0) (oi := ⟨some 12, _, _, _, _, _⟩) (v := ?v0_17) hHeld rfl ?y0_17 ?r0_17
      case y0_17 => (intro w _; first | (go_simp; done) | (go_simp; with_reducible rfl) | (with_reducible rfl))
      (try simp only [pt_])
      refine tk (i := 1) (oi := ⟨some 13, _, _, _, _, _⟩) (v := ?v1_18) hHeld rfl ?y1_18 ?r1_18
      case y1_18 => (intro w qS0; have cS0 := qS0.all4; first | (go_simp; done) | (go_simp; with_reducible rfl) | (with_reducible rfl))
      (try simp only [pt_])
      refine tk (i := 2) (oi := ⟨some 14, _, _, _, _, _⟩) (v := ?v2_19) hHeld rfl ?y2_19 ?r2_19
      case y2_19 => (intro w _; first | (go_simp; done) | (go_simp; with_reducible rfl) | (with_reducible rfl))
      (try simp only [pt_])
      refine tk (i := 3) (oi := ⟨some 15, _, _, _, _, _⟩) (v := ?v3_20) hHeld rfl ?y3_20 ?r3_20
      case y3_20 => (intro w qS0; have cS0 := qS0.all4; first | (go_simp; done) | (go_simp; with_reducible rfl) | (with_reducible rfl))
      (try simp only [pt_])
      refine tk (i := 4) (oi := ⟨some 16, _, _, _, _, _⟩) (v := ?v4_21) hHeld rfl ?y4_21 ?r4_21
      case y4_21 => (intro w _; first | (go_simp; done) | (go_simp; with_reducible rfl) | (with_reducible rfl))
      (try simp only [pt_])
      refine wpAnyH_ready (rs := [5]) (by kernel_rfl) (by simp) ?_
      refine AllReadyH.cons (o := { dst := some 17, op := _, type := _, pos := _, after := _, guard := _ }) rfl (fun K hK => ?_) ?_
      go_simp
      refine (CL.out _).mono ?_
      rintro e wj ⟨rfl, uj⟩
      have K_m := Blk.below B_m.drew uj
      refine hK.out _ _ ?_ (fun hHeld => ?_)
      · exact K_m
      clear hK K
      (try simp only [pt_])
      refine tk (i := 6) (oi := ⟨some 18, _, _, _, _, _⟩) (v := ?v6_22) hHeld rfl ?y6_22 ?r6_22
      case y6_22 => (intro w _; first | (go_simp; done) | (go_simp; with_reducible rfl) | (with_reducible rfl))
      (try simp only [pt_])
      refine wpAnyH_ready (rs := [7]) (by kernel_rfl) (by simp) ?_
      refine AllReadyH.cons (o := { dst := some 19, op := _, type := _, pos := _, after := _, guard := _ }) rfl (fun K hK => ?_) ?_
      go_simp
      refine (CX.out _).mono ?_
      rintro e wk ⟨rfl, rfl⟩
      refine hK.out _ _ ?_ (fun hHeld => ?_)
      · exact K_m
      clear hK K
      (try simp only [pt_])
      refine tk (i := 8) (oi := ⟨some 20, _, _, _, _, _⟩) (v := ?v8_23) hHeld rfl ?y8_23 ?r8_23
      case y8_23 => (intro w _; first | (go_simp; done) | (go_simp; with_reducible rfl) | (with_reducible rfl))
      (try simp only [pt_])
      refine tk (i := 9) (oi := ⟨some 21, _, _, _, _, _⟩) (v := ?v9_24) hHeld rfl ?y9_24 ?r9_24
      case y9_24 => (intro w _; first | (go_simp; done) | (go_simp; with_reducible rfl) | (with_reducible rfl))
      (try simp only [pt_])
      refine tk (i := 10) (oi := ⟨some 22, _, _, _, _, _⟩) (v := ?v10_25) hHeld rfl ?y10_25 ?r10_25
      case y10_25 => (intro w qS0; have cS0 := qS0.all4; first | (go_simp; done) | (go_simp; with_reducible rfl) | (with_reducible rfl))
      (try simp only [pt_])
      refine tk (i := 11) (oi := ⟨some 23, _, _, _, _, _⟩) (v := ?v11_26) hHeld rfl ?y11_26 ?r11_26
      case y11_26 => (intro w _; first | (go_simp; done) | (go_simp; with_reducible rfl) | (with_reducible rfl))
      (try simp only [pt_])
      refine tk (i := 12) (oi := ⟨some 24, _, _, _, _, _⟩) (v := ?v12_27) hHeld rfl ?y12_27 ?r12_27
      case y12_27 => (intro w _; first | (go_simp; done) | (go_simp; with_reducible rfl) | (with_reducible rfl))
      (try simp only [pt_])
      refine wpAnyH_ready (rs := [13]) (by kernel_rfl) (by simp) ?_
      refine AllReadyH.cons (o := { dst := some 25, op := _, type := _, pos := _, after := _, guard := _ }) rfl (fun K hK => ?_) ?_
      go_simp
      refine (CV.out _).mono ?_
      rintro e wk ⟨rfl, rfl⟩
      refine hK.out _ _ ?_ (fun hHeld => ?_)
      · exact K_m
      clear hK K
      (try simp only [pt_])
      refine tk (i := 14) (oi := ⟨some 26, _, _, _, _, _⟩) (v := ?v14_28) hHeld rfl ?y14_28 ?r14_28
      case y14_28 => (intro w _; first | (go_simp; done) | (go_simp; with_reducible rfl) | (with_reducible rfl))
      (try simp only [pt_])
      refine tk (i := 15) (oi := ⟨some 4, _, _, _, _, _⟩) (v := ?v15_29) hHeld rfl ?y15_29 ?r15_29
      case y15_29 => (intro w _; first | (go_simp; done) | (go_simp; with_reducible rfl) | (with_reducible rfl))
      (try simp only [pt_])
      refine wpAnyH_done (by kernel_rfl) ?_ _
      refine NoPanic.normal ?_
      rotate_left 1
      exact AllReadyH.nil
      exact AllReadyH.nil
      exact AllReadyH.nil
      have u9 : Below w0.heap.size w0 wj := (Below.refl _ _).drew.trans uj
      clear K_m
      go_wp2
      go_ret
      exact ⟨ret_bool (by rw [h3.out]; rfl), V0.trans (u9.mono V0.size)⟩
  · have hk : inB kd 1 4 = inB kd 2 4 := by unfold inB; rw [decide_eq_decide]; omega
    rw [if_neg k1, hk]
    clear hk
    have b1 : ((kd == 1) : Bool) = false := by simpa using k1
    cases h2 : inB kd 2 4
    · simp only [Bool.false_and]
      go_enter Tryd.func21, Tryd.ntmps21
      go_wp2_with fail
      refine (l1In_any _ _ _ _).mono ?_; rintro e w' ⟨rfl, rfl⟩
      rw [h1]
      clear h1
      have e0 := B_m.cell 0
      generalize (w.alloc (.cells #[.int .i64 kd, .int .i64 at_, .int .i64 ix, .int .i64 vl] 35)) = w0 at *
      go_wp2_with (first | (go_at_call 20; refine (l1In_any _ _ _ _).mono ?_; rintro e w' ⟨rfl, rfl⟩; rw [h2]))
      go_ret
      exact ⟨rfl, V0⟩
    have K0 := inB_true h2
    simp only [Bool.true_and]
    have e0' := B_m.cell 0
    have e1' := B_m.cell 1
    have e2' := B_m.cell 2
    have e3' := B_m.cell 3






    by_cases i0 : ix = 0
    · subst i0
      by_cases v0 : vl = 0
      · subst v0
        by_cases k3 : kd = 3
        · subst k3
          by_cases a2 : 2 ≤ at_
          · have hr : (decide ((0 : Int) = 0) && (decide ((0 : Int) = 0) && (decide ((3 : Int) ≠ 3) || decide (2 ≤ at_)))) = true := by simp [a2]
            rw [hr]
            clear hr
            go_enter Tryd.func21, Tryd.ntmps21
            go_wp2_with fail
            refine (l1In_any _ _ _ _).mono ?_; rintro e w' ⟨rfl, rfl⟩
            rw [h1]
            clear h1
            generalize (w.alloc (.cells #[.int .i64 3, .int .i64 at_, .int .i64 0, .int .i64 0] 35)) = w0 at *
            clear B_m A0 K0
            go_wp2_with (first | (go_at_call 20; refine (l1In_any _ _ _ _).mono ?_; rintro e w' ⟨rfl, rfl⟩; rw [h2]))
            go_ret
            exact ⟨rfl, V0⟩
          · have hr : (decide ((0 : Int) = 0) && (decide ((0 : Int) = 0) && (decide ((3 : Int) ≠ 3) || decide (2 ≤ at_)))) = false := by simp [a2]
            rw [hr]
            clear hr
            have d2 : decide (at_ ≥ 2) = false := by simp; omega
            go_enter Tryd.func21, Tryd.ntmps21
            go_wp2_with fail
            refine (l1In_any _ _ _ _).mono ?_; rintro e w' ⟨rfl, rfl⟩
            rw [h1]
            clear h1
            generalize (w.alloc (.cells #[.int .i64 3, .int .i64 at_, .int .i64 0, .int .i64 0] 35)) = w0 at *
            clear B_m A0 K0
            go_wp2_with (first | (go_at_call 20; refine (l1In_any _ _ _ _).mono ?_; rintro e w' ⟨rfl, rfl⟩; rw [h2]))
            go_ret
            exact ⟨rfl, V0⟩
        · have hr : (decide ((0 : Int) = 0) && (decide ((0 : Int) = 0) && (decide (kd ≠ 3) || decide (2 ≤ at_)))) = true := by simp [k3]
          rw [hr]
          clear hr
          have b3 : ((kd != 3) : Bool) = true := by simpa using k3
          go_enter Tryd.func21, Tryd.ntmps21
          go_wp2_with fail
          refine (l1In_any _ _ _ _).mono ?_; rintro e w' ⟨rfl, rfl⟩
          rw [h1]
          clear h1
          generalize (w.alloc (.cells #[.int .i64 kd, .int .i64 at_, .int .i64 0, .int .i64 0] 35)) = w0 at *
          clear B_m A0 K0
          go_wp2_with (first | (go_at_call 20; refine (l1In_any _ _ _ _).mono ?_; rintro e w' ⟨rfl, rfl⟩; rw [h2]))
          go_ret
          exact ⟨rfl, V0⟩
      · have hr : (decide ((0 : Int) = 0) && (decide (vl = 0) && (decide (kd ≠ 3) || decide (2 ≤ at_)))) = false := by simp [v0]
        rw [hr]
        clear hr
        have b3 : ((vl == 0) : Bool) = false := by simpa using v0
        go_enter Tryd.func21, Tryd.ntmps21
        go_wp2_with fail
        refine (l1In_any _ _ _ _).mono ?_; rintro e w' ⟨rfl, rfl⟩
        rw [h1]
        clear h1
        generalize (w.alloc (.cells #[.int .i64 kd, .int .i64 at_, .int .i64 0, .int .i64 vl] 35)) = w0 at *
        clear B_m A0 K0
        go_wp2_with (first | (go_at_call 20; refine (l1In_any _ _ _ _).mono ?_; rintro e w' ⟨rfl, rfl⟩; rw [h2]))
        go_ret
        exact ⟨rfl, V0⟩
    · have hr : (decide (ix = 0) && (decide (vl = 0) && (decide (kd ≠ 3) || decide (2 ≤ at_)))) = false := by simp [i0]
      rw [hr]
      clear hr
      have b3 : ((ix == 0) : Bool) = false := by simpa using i0
      go_enter Tryd.func21, Tryd.ntmps21
      go_wp2_with fail
      refine (l1In_any _ _ _ _).mono ?_; rintro e w' ⟨rfl, rfl⟩
      rw [h1]
      clear h1
      generalize (w.alloc (.cells #[.int .i64 kd, .int .i64 at_, .int .i64 ix, .int .i64 vl] 35)) = w0 at *
      clear B_m A0 K0
      go_wp2_with (first | (go_at_call 20; refine (l1In_any _ _ _ _).mono ?_; rintro e w' ⟨rfl, rfl⟩; rw [h2]))
      go_ret
      exact ⟨rfl, V0⟩
set_option maxHeartbeats 8000000 in
set_option maxRecDepth 100000 in
theorem nwGood_q (p pq : Int) (a : Option Addr) (n c : Nat) (L : List Int) (w : World) (hL : Flat 4 w a n c L) (tp : IntKind.i64.wrap (p - 1) = pq) :
    Calls Tryd.prog 13 #[.int .i64 p, .slice a n c] w fun e w' => e = .returned (.bool (medsB (pq + 1) L n && isPr p)) ∧ Below w.heap.size w w' := by
  have TP := Lib.hid tp
  clear tp
































































































































































































































































































































































  go_enter Tryd.func13, Tryd.ntmps13
  have hLn := hL.le4
  go_wp2
  go_loopw [9] (fun v wr => ∃ k : Nat, k ≤ n ∧ v = .int .i64 k ∧ (∀ i, i < k → medAt (pq + 1) L i = true) ∧ Below w.heap.size w wr) (fun v _ => n - (intOf v).toNat)
  case atStart => exact ⟨0, Nat.zero_le _, rfl, fun i hi => absurd hi (by omega), Below.refl _ _⟩
  case round =>
    obtain ⟨k, hk, rfl, hj, hbel⟩ := hrel
    have HJ := Lib.hid hj
    clear hj
    by_cases hlt : k < n
    · obtain ⟨g, o, rfl, hc⟩ := (hL.below hbel).at (by omega)
      have c0 : wr.cell? ⟨g, o + k * 4, none⟩ = some (.int .i64 (L.getD (k * 4) 0)) := hc (k * 4) (by omega)
      have c1 : wr.cell? ⟨g, o + k * 4 + 1, none⟩ = some (.int .i64 (L.getD (k * 4 + 1) 0)) := by have := hc (k * 4 + 1) (by omega); simpa only [Nat.add_assoc] using this
      have c2 : wr.cell? ⟨g, o + k * 4 + 2, none⟩ = some (.int .i64 (L.getD (k * 4 + 2) 0)) := by have := hc (k * 4 + 2) (by omega); simpa only [Nat.add_assoc] using this
      have c3 : wr.cell? ⟨g, o + k * 4 + 3, none⟩ = some (.int .i64 (L.getD (k * 4 + 3) 0)) := by have := hc (k * 4 + 3) (by omega); simpa only [Nat.add_assoc] using this
      have cp : wr.cell? ⟨g, o + (k - 1) * 4 + 1, none⟩ = some (.int .i64 (L.getD ((k - 1) * 4 + 1) 0)) := by have := hc ((k - 1) * 4 + 1) (by omega); simpa only [Nat.add_assoc] using this
      clear hc
      have HA : Hid (medAt (pq + 1) L k = (medB (pq + 1) (L.getD (k * 4) 0) (L.getD (k * 4 + 1) 0) (L.getD (k * 4 + 2) 0) (L.getD (k * 4 + 3) 0) && (decide (k = 0) || decide (L.getD ((k - 1) * 4 + 1) 0 < L.getD (k * 4 + 1) 0)))) := rfl
      have CM : ∀ W, Below w.heap.size w W → Calls Tryd.prog 21 #[.int .i64 p, .agg #[.int .i64 (L.getD (k * 4) 0), .int .i64 (L.getD (k * 4 + 1) 0), .int .i64 (L.getD (k * 4 + 2) 0), .int .i64 (L.getD (k * 4 + 3) 0)]] W (fun e w' => e = .returned (.bool (medB (pq + 1) (L.getD (k * 4) 0) (L.getD (k * 4 + 1) 0) (L.getD (k * 4 + 2) 0) (L.getD (k * 4 + 3) 0))) ∧ Below W.heap.size W w') := fun W _hW => (nwOne_q p _ _ _ _ pq W TP.out)
      generalize L.getD ((k - 1) * 4 + 1) 0 = pa at *
      generalize L.getD (k * 4) 0 = kd at *
      generalize L.getD (k * 4 + 1) 0 = ka at *
      generalize L.getD (k * 4 + 2) 0 = kx at *
      generalize L.getD (k * 4 + 3) 0 = kv at *
      replace CM := Lib.hid CM
      generalize medB (pq + 1) kd ka kx kv = b at *


      go_upto_region 4 with fail
      clear c0 c1 c2 c3
      have V2 := hbel.alloc hbel.size (.cells #[.int .i64 kd, .int .i64 ka, .int .i64 kx, .int .i64 kv] 35)
      have B_m : Blk (wr.alloc (.cells #[.int .i64 kd, .int .i64 ka, .int .i64 kx, .int .i64 kv] 35)) wr.heap.size 35 #[.int .i64 kd, .int .i64 ka, .int .i64 kx, .int .i64 kv] := Blk.new wr _ _
      have cq : (wr.alloc (.cells #[.int .i64 kd, .int .i64 ka, .int .i64 kx, .int .i64 kv] 35)).cell? ⟨g, o + (k - 1) * 4 + 1, none⟩ = some (.int .i64 pa) := keepA _ cp
      clear cp
      generalize (wr.alloc (.cells #[.int .i64 kd, .int .i64 ka, .int .i64 kx, .int .i64 kv] 35)) = w2 at *
      cases b
      · skip
        have HB := Lib.hid (medsB_no (pq + 1) L n k hlt (by rw [HA.out]; rfl))
        refine wp_region_noPanic ?_
        refine wp_region_held_drew (S := (fun W => Blk W (wr.heap.size) 35 #[.int .i64 kd, .int .i64 ka, .int .i64 kx, .int .i64 kv] ∧ W.cell? ⟨g, o + (k - 1) * 4 + 1, none⟩ = some (.int .i64 pa))) (by kernel_rfl) ?hS30 (fun hHeld => ?go30)
        case hS30 => exact ⟨B_m.drew, cq⟩
        refine tk (i := 0) (oi := ⟨some 14, _, _, _, _, _⟩) (v := ?v0_31) hHeld rfl ?y0_31 ?r0_31
        case y0_31 => (intro w _; first | (go_simp; done) | (go_simp; with_reducible rfl) | (with_reducible rfl))
        (try simp only [pt_])
        refine tk (i := 1) (oi := ⟨some 15, _, _, _, _, _⟩) (v := ?v1_32) hHeld rfl ?y1_32 ?r1_32
        case y1_32 => (intro w hSw; obtain ⟨qS0, qS1⟩ := hSw; have cS0 := qS0.all4; first | (go_simp; done) | (go_simp; with_reducible rfl) | (with_reducible rfl))
        (try simp only [pt_])
        refine wpAnyH_ready (rs := [2]) (by kernel_rfl) (by simp) ?_
        refine AllReadyH.cons (o := { dst := some 16, op := _, type := _, pos := _, after := _, guard := _ }) rfl (fun K hK => ?_) ?_
        go_simp
        refine (CM.out _ (V2.drew)).mono ?_
        rintro e wj ⟨rfl, uj⟩
        have K_m := Blk.below B_m.drew uj
        have K_p := keepC uj (show w2.drew.cell? _ = _ from cq)
        refine hK.out _ _ ?_ (fun hHeld => ?_)
        · exact ⟨K_m, K_p⟩
        clear hK K
        (try simp only [pt_])
        refine tk (i := 3) (oi := ⟨some 17, _, _, _, _, _⟩) (v := ?v3_33) hHeld rfl ?y3_33 ?r3_33
        case y3_33 => (intro w _; first | (go_simp; done) | (go_simp; with_reducible rfl) | (with_reducible rfl))
        (try simp only [pt_])
        refine tk (i := 4) (oi := ⟨some 18, _, _, _, _, _⟩) (v := ?v4_34) hHeld rfl ?y4_34 ?r4_34
        case y4_34 => (intro w _; first | (go_simp; done) | (go_simp; with_reducible rfl) | (with_reducible rfl))
        (try simp only [pt_])
        refine tko (i := 5) (oi := ⟨some 19, _, _, _, _, _⟩) hHeld rfl ?r5_35
        (try simp only [pt_])
        refine tko (i := 6) (oi := ⟨some 20, _, _, _, _, _⟩) hHeld rfl ?r6_36
        (try simp only [pt_])
        refine tko (i := 7) (oi := ⟨some 21, _, _, _, _, _⟩) hHeld rfl ?r7_37
        (try simp only [pt_])
        refine tko (i := 8) (oi := ⟨some 22, _, _, _, _, _⟩) hHeld rfl ?r8_38
        (try simp only [pt_])
        refine tko (i := 9) (oi := ⟨some 23, _, _, _, _, _⟩) hHeld rfl ?r9_39
        (try simp only [pt_])
        refine tko (i := 10) (oi := ⟨some 24, _, _, _, _, _⟩) hHeld rfl ?r10_40
        (try simp only [pt_])
        refine tko (i := 11) (oi := ⟨some 25, _, _, _, _, _⟩) hHeld rfl ?r11_41
        (try simp only [pt_])
        refine tko (i := 12) (oi := ⟨some 26, _, _, _, _, _⟩) hHeld rfl ?r12_42
        (try simp only [pt_])
        refine tko (i := 13) (oi := ⟨some 27, _, _, _, _, _⟩) hHeld rfl ?r13_43
        (try simp only [pt_])
        refine tko (i := 14) (oi := ⟨some 28, _, _, _, _, _⟩) hHeld rfl ?r14_44
        (try simp only [pt_])
        refine tko (i := 15) (oi := ⟨some 29, _, _, _, _, _⟩) hHeld rfl ?r15_45
        (try simp only [pt_])
        refine tko (i := 16) (oi := ⟨some 30, _, _, _, _, _⟩) hHeld rfl ?r16_46
        (try simp only [pt_])
        refine tko (i := 17) (oi := ⟨some 31, _, _, _, _, _⟩) hHeld rfl ?r17_47
        (try simp only [pt_])
        refine tk (i := 18) (oi := ⟨some 32, _, _, _, _, _⟩) (v := ?v18_48) hHeld rfl ?y18_48 ?r18_48
        case y18_48 => (intro w _; first | (go_simp; done) | (go_simp; with_reducible rfl) | (with_reducible rfl))
        (try simp only [pt_])
        refine wpAnyH_done (by kernel_rfl) ?_ _
        refine NoPanic.normal ?_
        rotate_left 1
        exact AllReadyH.nil
        have u9 := V2.trans ((((Below.refl _ _).drew.trans uj)).mono V2.size)
        clear K_m K_p B_m cq uj V2 CM HA
        go_wp2
        go_ret
        exact ⟨ret_bool (by rw [HB.out]; rfl), u9⟩
      · by_cases k0 : k = 0
        · subst k0
          have HB : Hid (medAt (pq + 1) L 0 = true) := Lib.hid (by rw [HA.out]; rfl)
          refine wp_region_noPanic ?_
          refine wp_region_held_drew (S := (fun W => Blk W (wr.heap.size) 35 #[.int .i64 kd, .int .i64 ka, .int .i64 kx, .int .i64 kv] ∧ W.cell? ⟨g, o + (0 - 1) * 4 + 1, none⟩ = some (.int .i64 pa))) (by kernel_rfl) ?hS49 (fun hHeld => ?go49)
          case hS49 => exact ⟨B_m.drew, cq⟩
          refine tk (i := 0) (oi := ⟨some 14, _, _, _, _, _⟩) (v := ?v0_50) hHeld rfl ?y0_50 ?r0_50
          case y0_50 => (intro w _; first | (go_simp; done) | (go_simp; with_reducible rfl) | (with_reducible rfl))
          (try simp only [pt_])
          refine tk (i := 1) (oi := ⟨some 15, _, _, _, _, _⟩) (v := ?v1_51) hHeld rfl ?y1_51 ?r1_51
          case y1_51 => (intro w hSw; obtain ⟨qS0, qS1⟩ := hSw; have cS0 := qS0.all4; first | (go_simp; done) | (go_simp; with_reducible rfl) | (with_reducible rfl))
          (try simp only [pt_])
          refine wpAnyH_ready (rs := [2]) (by kernel_rfl) (by simp) ?_
          refine AllReadyH.cons (o := { dst := some 16, op := _, type := _, pos := _, after := _, guard := _ }) rfl (fun K hK => ?_) ?_
          go_simp
          refine (CM.out _ (V2.drew)).mono ?_
          rintro e wj ⟨rfl, uj⟩
          have K_m := Blk.below B_m.drew uj
          have K_p := keepC uj (show w2.drew.cell? _ = _ from cq)
          refine hK.out _ _ ?_ (fun hHeld => ?_)
          · exact ⟨K_m, K_p⟩
          clear hK K
          (try simp only [pt_])
          refine tk (i := 3) (oi := ⟨some 17, _, _, _, _, _⟩) (v := ?v3_52) hHeld rfl ?y3_52 ?r3_52
          case y3_52 => (intro w _; first | (go_simp; done) | (go_simp; with_reducible rfl) | (with_reducible rfl))
          (try simp only [pt_])
          refine tk (i := 4) (oi := ⟨some 18, _, _, _, _, _⟩) (v := ?v4_53) hHeld rfl ?y4_53 ?r4_53
          case y4_53 => (intro w _; first | (go_simp; done) | (go_simp; with_reducible rfl) | (with_reducible rfl))
          (try simp only [pt_])
          refine tk (i := 5) (oi := ⟨some 19, _, _, _, _, _⟩) (v := ?v5_54) hHeld rfl ?y5_54 ?r5_54
          case y5_54 => (intro w _; first | (go_simp; done) | (go_simp; with_reducible rfl) | (with_reducible rfl))
          (try simp only [pt_])
          refine tk (i := 6) (oi := ⟨some 20, _, _, _, _, _⟩) (v := ?v6_55) hHeld rfl ?y6_55 ?r6_55
          case y6_55 => (intro w _; first | (go_simp; done) | (go_simp; with_reducible rfl) | (with_reducible rfl))
          (try simp only [pt_])
          refine tk (i := 7) (oi := ⟨some 21, _, _, _, _, _⟩) (v := ?v7_56) hHeld rfl ?y7_56 ?r7_56
          case y7_56 => (intro w _; first | (go_simp; done) | (go_simp; with_reducible rfl) | (with_reducible rfl))
          (try simp only [pt_])
          refine tko (i := 8) (oi := ⟨some 22, _, _, _, _, _⟩) hHeld rfl ?r8_57
          (try simp only [pt_])
          refine tko (i := 9) (oi := ⟨some 23, _, _, _, _, _⟩) hHeld rfl ?r9_58
          (try simp only [pt_])
          refine tko (i := 10) (oi := ⟨some 24, _, _, _, _, _⟩) hHeld rfl ?r10_59
          (try simp only [pt_])
          refine tko (i := 11) (oi := ⟨some 25, _, _, _, _, _⟩) hHeld rfl ?r11_60
          (try simp only [pt_])
          refine tko (i := 12) (oi := ⟨some 26, _, _, _, _, _⟩) hHeld rfl ?r12_61
          (try simp only [pt_])
          refine tko (i := 13) (oi := ⟨some 27, _, _, _, _, _⟩) hHeld rfl ?r13_62
          (try simp only [pt_])
          refine tko (i := 14) (oi := ⟨some 28, _, _, _, _, _⟩) hHeld rfl ?r14_63
          (try simp only [pt_])
          refine tko (i := 15) (oi := ⟨some 29, _, _, _, _, _⟩) hHeld rfl ?r15_64
          (try simp only [pt_])
          refine tko (i := 16) (oi := ⟨some 30, _, _, _, _, _⟩) hHeld rfl ?r16_65
          (try simp only [pt_])
          refine tk (i := 17) (oi := ⟨some 31, _, _, _, _, _⟩) (v := ?v17_66) hHeld rfl ?y17_66 ?r17_66
          case y17_66 => (intro w _; first | (go_simp; done) | (go_simp; with_reducible rfl) | (with_reducible rfl))
          (try simp only [pt_])
          refine tk (i := 18) (oi := ⟨some 32, _, _, _, _, _⟩) (v := ?v18_67) hHeld rfl ?y18_67 ?r18_67
          case y18_67 => (intro w _; first | (go_simp; done) | (go_simp; with_reducible rfl) | (with_reducible rfl))
          (try simp only [pt_])
          refine wpAnyH_done (by kernel_rfl) ?_ _
          refine NoPanic.normal ?_
          rotate_left 1
          exact AllReadyH.nil
          have u9 := V2.trans ((((Below.refl _ _).drew.trans uj)).mono V2.size)
          clear K_m K_p B_m cq uj V2 CM HA
          go_wp2
          go_roundw
          case rel => exact ⟨1, by omega, by first | rfl | go_num, fun i hi => by
            obtain rfl : i = 0 := by omega
            exact HB.out, u9⟩
          case measure => simp [intOf]; omega
        · have kp : (0 : Int) < (k : Int) := by omega
          have dk0 : decide (0 < k) = true := decide_eq_true (by omega)
          have hk1 : ((k : Int) - 1).toNat = k - 1 := by omega
          have hk3 : (k : Int) - 1 < (n : Int) := by omega
          have hk4 : (1 : Int) ≤ (k : Int) := by omega
          have hk2 : IntKind.i64.wrap ((k : Int) - 1) = (k : Int) - 1 := IntWalk.i64_in _ (by omega)
          by_cases hpa : pa < ka
          · have HB : Hid (medAt (pq + 1) L k = true) := Lib.hid (by rw [HA.out]; simp [hpa])
            have d1 : decide (pa ≥ ka) = false := by simp; omega
            refine wp_region_noPanic ?_
            refine wp_region_held_drew (S := (fun W => Blk W (wr.heap.size) 35 #[.int .i64 kd, .int .i64 ka, .int .i64 kx, .int .i64 kv] ∧ W.cell? ⟨g, o + (k - 1) * 4 + 1, none⟩ = some (.int .i64 pa))) (by kernel_rfl) ?hS68 (fun hHeld => ?go68)
            case hS68 => exact ⟨B_m.drew, cq⟩
            refine tk (i := 0) (oi := ⟨some 14, _, _, _, _, _⟩) (v := ?v0_69) hHeld rfl ?y0_69 ?r0_69
            case y0_69 => (intro w _; first | (go_simp; done) | (go_simp; with_reducible rfl) | (with_reducible rfl))
            (try simp only [pt_])
            refine tk (i := 1) (oi := ⟨some 15, _, _, _, _, _⟩) (v := ?v1_70) hHeld rfl ?y1_70 ?r1_70
            case y1_70 => (intro w hSw; obtain ⟨qS0, qS1⟩ := hSw; have cS0 := qS0.all4; first | (go_simp; done) | (go_simp; with_reducible rfl) | (with_reducible rfl))
            (try simp only [pt_])
            refine wpAnyH_ready (rs := [2]) (by kernel_rfl) (by simp) ?_
            refine AllReadyH.cons (o := { dst := some 16, op := _, type := _, pos := _, after := _, guard := _ }) rfl (fun K hK => ?_) ?_
            go_simp
            refine (CM.out _ (V2.drew)).mono ?_
            rintro e wj ⟨rfl, uj⟩
            have K_m := Blk.below B_m.drew uj
            have K_p := keepC uj (show w2.drew.cell? _ = _ from cq)
            refine hK.out _ _ ?_ (fun hHeld => ?_)
            · exact ⟨K_m, K_p⟩
            clear hK K
            (try simp only [pt_])
            refine tk (i := 3) (oi := ⟨some 17, _, _, _, _, _⟩) (v := ?v3_71) hHeld rfl ?y3_71 ?r3_71
            case y3_71 => (intro w _; first | (go_simp; done) | (go_simp; with_reducible rfl) | (with_reducible rfl))
            (try simp only [pt_])
            refine tk (i := 4) (oi := ⟨some 18, _, _, _, _, _⟩) (v := ?v4_72) hHeld rfl ?y4_72 ?r4_72
            case y4_72 => (intro w _; first | (go_simp; done) | (go_simp; with_reducible rfl) | (with_reducible rfl))
            (try simp only [pt_])
            refine tk (i := 5) (oi := ⟨some 19, _, _, _, _, _⟩) (v := ?v5_73) hHeld rfl ?y5_73 ?r5_73
            case y5_73 => (intro w _; first | (go_simp; done) | (go_simp; with_reducible rfl) | (with_reducible rfl))
            (try simp only [pt_])
            refine tk (i := 6) (oi := ⟨some 20, _, _, _, _, _⟩) (v := ?v6_74) hHeld rfl ?y6_74 ?r6_74
            case y6_74 => (intro w _; first | (go_simp; done) | (go_simp; with_reducible rfl) | (with_reducible rfl))
            (try simp only [pt_])
            try simp only [dk0]
            refine tk (i := 7) (oi := ⟨some 21, _, _, _, _, _⟩) (v := ?v7_75) hHeld rfl ?y7_75 ?r7_75
            case y7_75 => (intro w _; first | (go_simp; done) | (go_simp; with_reducible rfl) | (with_reducible rfl))
            (try simp only [pt_])
            refine tk (i := 8) (oi := ⟨some 22, _, _, _, _, _⟩) (v := ?v8_76) hHeld rfl ?y8_76 ?r8_76
            case y8_76 => (intro w _; first | (go_simp; done) | (go_simp; with_reducible rfl) | (with_reducible rfl))
            (try simp only [pt_])
            refine tk (i := 9) (oi := ⟨some 23, _, _, _, _, _⟩) (v := ?v9_77) hHeld rfl ?y9_77 ?r9_77
            case y9_77 => (intro w _; first | (go_simp; done) | (go_simp; with_reducible rfl) | (with_reducible rfl))
            (try simp only [pt_])
            refine tk (i := 10) (oi := ⟨some 24, _, _, _, _, _⟩) (v := ?v10_78) hHeld rfl ?y10_78 ?r10_78
            case y10_78 => (intro w _; first | (go_simp; done) | (go_simp; with_reducible rfl) | (with_reducible rfl))
            (try simp only [pt_])
            refine tk (i := 11) (oi := ⟨some 25, _, _, _, _, _⟩) (v := ?v11_79) hHeld rfl ?y11_79 ?r11_79
            case y11_79 => (intro w _; first | (go_simp; done) | (go_simp; with_reducible rfl) | (with_reducible rfl))
            (try simp only [pt_])
            refine tk (i := 12) (oi := ⟨some 26, _, _, _, _, _⟩) (v := ?v12_80) hHeld rfl ?y12_80 ?r12_80
            case y12_80 => (intro w _; first | (go_simp; done) | (go_simp; with_reducible rfl) | (with_reducible rfl))
            (try simp only [pt_])
            refine tk (i := 13) (oi := ⟨some 27, _, _, _, _, _⟩) (v := ?v13_81) hHeld rfl ?y13_81 ?r13_81
            case y13_81 => (intro w hSw; obtain ⟨qS0, qS1⟩ := hSw; have cS0 := qS0.all4; first | (go_simp; done) | (go_simp; with_reducible rfl) | (with_reducible rfl))
            (try simp only [pt_])
            refine tk (i := 14) (oi := ⟨some 28, _, _, _, _, _⟩) (v := ?v14_82) hHeld rfl ?y14_82 ?r14_82
            case y14_82 => (intro w _; first | (go_simp; done) | (go_simp; with_reducible rfl) | (with_reducible rfl))
            (try simp only [pt_])
            refine tk (i := 15) (oi := ⟨some 29, _, _, _, _, _⟩) (v := ?v15_83) hHeld rfl ?y15_83 ?r15_83
            case y15_83 => (intro w hSw; obtain ⟨qS0, qS1⟩ := hSw; have cS0 := qS0.all4; first | (go_simp; done) | (go_simp; with_reducible rfl) | (with_reducible rfl))
            (try simp only [pt_])
            refine tk (i := 16) (oi := ⟨some 30, _, _, _, _, _⟩) (v := ?v16_84) hHeld rfl ?y16_84 ?r16_84
            case y16_84 => (intro w _; first | (go_simp; done) | (go_simp; with_reducible rfl) | (with_reducible rfl))
            (try simp only [pt_])
            refine tk (i := 17) (oi := ⟨some 31, _, _, _, _, _⟩) (v := ?v17_85) hHeld rfl ?y17_85 ?r17_85
            case y17_85 => (intro w _; first | (go_simp; done) | (go_simp; with_reducible rfl) | (with_reducible rfl))
            (try simp only [pt_])
            refine tk (i := 18) (oi := ⟨some 32, _, _, _, _, _⟩) (v := ?v18_86) hHeld rfl ?y18_86 ?r18_86
            case y18_86 => (intro w _; first | (go_simp; done) | (go_simp; with_reducible rfl) | (with_reducible rfl))
            (try simp only [pt_])
            refine wpAnyH_done (by kernel_rfl) ?_ _
            refine NoPanic.normal ?_
            rotate_left 1
            exact AllReadyH.nil
            have u9 := V2.trans ((((Below.refl _ _).drew.trans uj)).mono V2.size)
            clear K_m K_p B_m cq uj V2 CM HA
            go_wp2
            go_roundw
            case rel => exact ⟨k + 1, by omega, by go_num, fun i hi => by
              by_cases e : i = k
              · subst e; exact HB.out
              · exact HJ.out i (by omega), u9⟩
            case measure => simp [intOf]; omega
          · have HB := Lib.hid (medsB_no (pq + 1) L n k hlt (by rw [HA.out]; simp [hpa, k0]))
            have d1 : pa ≥ ka := by omega
            refine wp_region_noPanic ?_
            refine wp_region_held_drew (S := (fun W => Blk W (wr.heap.size) 35 #[.int .i64 kd, .int .i64 ka, .int .i64 kx, .int .i64 kv] ∧ W.cell? ⟨g, o + (k - 1) * 4 + 1, none⟩ = some (.int .i64 pa))) (by kernel_rfl) ?hS87 (fun hHeld => ?go87)
            case hS87 => exact ⟨B_m.drew, cq⟩
            refine tk (i := 0) (oi := ⟨some 14, _, _, _, _, _⟩) (v := ?v0_88) hHeld rfl ?y0_88 ?r0_88
            case y0_88 => (intro w _; first | (go_simp; done) | (go_simp; with_reducible rfl) | (with_reducible rfl))
            (try simp only [pt_])
            refine tk (i := 1) (oi := ⟨some 15, _, _, _, _, _⟩) (v := ?v1_89) hHeld rfl ?y1_89 ?r1_89
            case y1_89 => (intro w hSw; obtain ⟨qS0, qS1⟩ := hSw; have cS0 := qS0.all4; first | (go_simp; done) | (go_simp; with_reducible rfl) | (with_reducible rfl))
            (try simp only [pt_])
            refine wpAnyH_ready (rs := [2]) (by kernel_rfl) (by simp) ?_
            refine AllReadyH.cons (o := { dst := some 16, op := _, type := _, pos := _, after := _, guard := _ }) rfl (fun K hK => ?_) ?_
            go_simp
            refine (CM.out _ (V2.drew)).mono ?_
            rintro e wj ⟨rfl, uj⟩
            have K_m := Blk.below B_m.drew uj
            have K_p := keepC uj (show w2.drew.cell? _ = _ from cq)
            refine hK.out _ _ ?_ (fun hHeld => ?_)
            · exact ⟨K_m, K_p⟩
            clear hK K
            (try simp only [pt_])
            refine tk (i := 3) (oi := ⟨some 17, _, _, _, _, _⟩) (v := ?v3_90) hHeld rfl ?y3_90 ?r3_90
            case y3_90 => (intro w _; first | (go_simp; done) | (go_simp; with_reducible rfl) | (with_reducible rfl))
            (try simp only [pt_])
            refine tk (i := 4) (oi := ⟨some 18, _, _, _, _, _⟩) (v := ?v4_91) hHeld rfl ?y4_91 ?r4_91
            case y4_91 => (intro w _; first | (go_simp; done) | (go_simp; with_reducible rfl) | (with_reducible rfl))
            (try simp only [pt_])
            refine tk (i := 5) (oi := ⟨some 19, _, _, _, _, _⟩) (v := ?v5_92) hHeld rfl ?y5_92 ?r5_92
            case y5_92 => (intro w _; first | (go_simp; done) | (go_simp; with_reducible rfl) | (with_reducible rfl))
            (try simp only [pt_])
            refine tk (i := 6) (oi := ⟨some 20, _, _, _, _, _⟩) (v := ?v6_93) hHeld rfl ?y6_93 ?r6_93
            case y6_93 => (intro w _; first | (go_simp; done) | (go_simp; with_reducible rfl) | (with_reducible rfl))
            (try simp only [pt_])
            try simp only [dk0]
            refine tk (i := 7) (oi := ⟨some 21, _, _, _, _, _⟩) (v := ?v7_94) hHeld rfl ?y7_94 ?r7_94
            case y7_94 => (intro w _; first | (go_simp; done) | (go_simp; with_reducible rfl) | (with_reducible rfl))
            (try simp only [pt_])
            refine tk (i := 8) (oi := ⟨some 22, _, _, _, _, _⟩) (v := ?v8_95) hHeld rfl ?y8_95 ?r8_95
            case y8_95 => (intro w _; first | (go_simp; done) | (go_simp; with_reducible rfl) | (with_reducible rfl))
            (try simp only [pt_])
            refine tk (i := 9) (oi := ⟨some 23, _, _, _, _, _⟩) (v := ?v9_96) hHeld rfl ?y9_96 ?r9_96
            case y9_96 => (intro w _; first | (go_simp; done) | (go_simp; with_reducible rfl) | (with_reducible rfl))
            (try simp only [pt_])
            refine tk (i := 10) (oi := ⟨some 24, _, _, _, _, _⟩) (v := ?v10_97) hHeld rfl ?y10_97 ?r10_97
            case y10_97 => (intro w _; first | (go_simp; done) | (go_simp; with_reducible rfl) | (with_reducible rfl))
            (try simp only [pt_])
            refine tk (i := 11) (oi := ⟨some 25, _, _, _, _, _⟩) (v := ?v11_98) hHeld rfl ?y11_98 ?r11_98
            case y11_98 => (intro w _; first | (go_simp; done) | (go_simp; with_reducible rfl) | (with_reducible rfl))
            (try simp only [pt_])
            refine tk (i := 12) (oi := ⟨some 26, _, _, _, _, _⟩) (v := ?v12_99) hHeld rfl ?y12_99 ?r12_99
            case y12_99 => (intro w _; first | (go_simp; done) | (go_simp; with_reducible rfl) | (with_reducible rfl))
            (try simp only [pt_])
            refine tk (i := 13) (oi := ⟨some 27, _, _, _, _, _⟩) (v := ?v13_100) hHeld rfl ?y13_100 ?r13_100
            case y13_100 => (intro w hSw; obtain ⟨qS0, qS1⟩ := hSw; have cS0 := qS0.all4; first | (go_simp; done) | (go_simp; with_reducible rfl) | (with_reducible rfl))
            (try simp only [pt_])
            refine tk (i := 14) (oi := ⟨some 28, _, _, _, _, _⟩) (v := ?v14_101) hHeld rfl ?y14_101 ?r14_101
            case y14_101 => (intro w _; first | (go_simp; done) | (go_simp; with_reducible rfl) | (with_reducible rfl))
            (try simp only [pt_])
            refine tk (i := 15) (oi := ⟨some 29, _, _, _, _, _⟩) (v := ?v15_102) hHeld rfl ?y15_102 ?r15_102
            case y15_102 => (intro w hSw; obtain ⟨qS0, qS1⟩ := hSw; have cS0 := qS0.all4; first | (go_simp; done) | (go_simp; with_reducible rfl) | (with_reducible rfl))
            (try simp only [pt_])
            refine tk (i := 16) (oi := ⟨some 30, _, _, _, _, _⟩) (v := ?v16_103) hHeld rfl ?y16_103 ?r16_103
            case y16_103 => (intro w _; first | (go_simp; done) | (go_simp; with_reducible rfl) | (with_reducible rfl))
            (try simp only [pt_])
            refine tk (i := 17) (oi := ⟨some 31, _, _, _, _, _⟩) (v := ?v17_104) hHeld rfl ?y17_104 ?r17_104
            case y17_104 => (intro w _; first | (go_simp; done) | (go_simp; with_reducible rfl) | (with_reducible rfl))
            (try simp only [pt_])
            refine tk (i := 18) (oi := ⟨some 32, _, _, _, _, _⟩) (v := ?v18_105) hHeld rfl ?y18_105 ?r18_105
            case y18_105 => (intro w _; first | (go_simp; done) | (go_simp; with_reducible rfl) | (with_reducible rfl))
            (try simp only [pt_])
            refine wpAnyH_done (by kernel_rfl) ?_ _
            refine NoPanic.normal ?_
            rotate_left 1
            exact AllReadyH.nil
            have u9 := V2.trans ((((Below.refl _ _).drew.trans uj)).mono V2.size)
            clear K_m K_p B_m cq uj V2 CM HA
            go_wp2
            go_ret
            exact ⟨ret_bool (by rw [HB.out]; rfl), u9⟩

    · obtain rfl : k = n := by omega
      have HB := Lib.hid (medsB_yes (pq + 1) L k HJ.out)
      go_wp2_with (go_at_call 12; refine (fpGood_any _ _).mono ?_; rintro e w' ⟨rfl, m, rfl⟩)
      go_ret
      exact ⟨ret_bool (by rw [HB.out]; rfl), hbel.trans (below_of_drewN _ |>.mono hbel.size)⟩
end Go.Proofs.YtjndhgjmnoiegaaDoor
