/- Lemmas and walks that the claim's proof rests on, part 13. -/
import Derived.Test.YtlmdckcohoddnaaDoorK7
namespace Go.Proofs.YtlmdckcohoddnaaDoor
open Go.RowKit
set_option maxHeartbeats 16000000 in
set_option maxRecDepth 100000 in
theorem ptOwn_any (a : Pl) (x : PlX) (w : World) (h : PlR w x a.shares a.keys a.heard) (hN : PlN a) :
    Calls Tryd.prog 90 #[.agg #[.int .i64 a.P, .int .i64 a.party, .int .i64 a.input, .int .i64 a.mask, .int .i64 a.delta, .slice x.sa x.sn x.sc, .slice x.ka x.kn x.kc, .int .i64 a.step, .slice x.ha x.hn x.hc, .int .i64 a.status, .int .i64 a.out]] w fun e w' => ∃ y F, e = .returned (.agg #[.int .i64 a.P, .int .i64 a.party, .int .i64 a.input, .int .i64 a.mask, .int .i64 a.delta, .slice y.sa y.sn y.sc, .slice y.ka y.kn y.kc, .int .i64 a.step, .slice y.ha y.hn y.hc, .int .i64 a.status, .int .i64 a.out]) ∧ PlO w' w.heap.size y a.shares a.keys a.heard F ∧ Below w.heap.size w w' := by
  obtain ⟨hS, hK, rs, hH, hD⟩ := h
  have hs5 : x.sn = 5 := by have := hS.len; have := hN.sl; omega
  have hk5 : x.kn = 5 := by have := hK.len; have := hN.kl; omega
  have hrl := hH.len
  have hh3 : x.hn ≤ 3 := by have := hN.hl; have := hN.stp; have : rs.length = a.heard.length := by rw [← hD, datas_len]
                            omega
  have hdl : a.heard.length = x.hn := by rw [← hD, datas_len]; exact hrl
  have HR := Lib.hid (fun (k : Nat) (hk : k < x.hn) => (show (rowAt rs k).2.2 = hAt a.heard k ∧ (rowAt rs k).2.2.length ≤ 4 by
    have e := hAt_rs hD k (by omega)
    exact ⟨e.symm, by rw [← e, (hN.hb k (by omega)).1]; exact (blen_bd k).2⟩))
  have HL := Lib.hid hdl
  clear hN hD hrl hdl
  obtain ⟨x_sa, x_sn, x_sc, x_ka, x_kn, x_kc, x_ha, x_hn, x_hc⟩ := x
  dsimp only at *
  subst hs5
  subst hk5
  go_enter Tryd.func90, Tryd.ntmps90
  go_upto_region 2 with fail
  refine Exists.elim (Blk.new_ w (b := w.heap.size) rfl 31 #[.int .i64 a.P, .int .i64 a.party, .int .i64 a.input, .int .i64 a.mask, .int .i64 a.delta, .slice x_sa 5 x_sc, .slice x_ka 5 x_kc, .int .i64 a.step, .slice x_ha x_hn x_hc, .int .i64 a.status, .int .i64 a.out]) (fun w1_a0' q => ?_)
  rw [q.1]; have B_a := q.2.1; have s_w1_a0' := q.2.2.1; have u_w1_a0' := q.2.2.2; clear q
  refine Exists.elim (Blk.new_ w1_a0' (b := w.heap.size + 1) s_w1_a0' 31 #[.int .i64 0, .int .i64 0, .int .i64 0, .int .i64 0, .int .i64 0, .slice none 0 0, .slice none 0 0, .int .i64 0, .slice none 0 0, .int .i64 0, .int .i64 0]) (fun w1_a1' q => ?_)
  rw [q.1]; have B_r := q.2.1; have s_w1_a1' := q.2.2.1; have u_w1_a1' := q.2.2.2; clear q
  refine Exists.elim (Blk.new_ w1_a1' (b := w.heap.size + 2) s_w1_a1' 31 #[.int .i64 a.P, .int .i64 a.party, .int .i64 a.input, .int .i64 a.mask, .int .i64 a.delta, .slice x_sa 5 x_sc, .slice x_ka 5 x_kc, .int .i64 a.step, .slice x_ha x_hn x_hc, .int .i64 a.status, .int .i64 a.out]) (fun w1' q => ?_)
  rw [q.1]; have B_b := q.2.1; have s_w1' := q.2.2.1; have u_w1' := q.2.2.2; clear q
  replace B_a := ((B_a.below u_w1_a1').below u_w1')
  replace B_r := (B_r.below u_w1')
  have U := (u_w1_a0'.trans ((u_w1_a1'.trans (u_w1'.mono u_w1_a1'.size)).mono u_w1_a0'.size))
  have S_w1' : w.heap.size + 3 ≤ w1'.heap.size := Nat.le_of_eq s_w1'.symm
  have V_w1' := (Below.refl w.heap.size w).trans (U.mono ((Below.refl w.heap.size w)).size)
  clear u_w1_a0' u_w1_a1' u_w1' s_w1_a0' s_w1_a1' s_w1' U
  rw [show w.heap.size + 1 + 1 = w.heap.size + 2 from rfl]
  have e_a_5 := B_a.a11_5
  have e5A : (w1'.alloc (.cells #[] 81)).cell? ⟨w.heap.size, 5, none⟩ = some (.slice x_sa 5 x_sc) := keepA _ e_a_5
  have hS2 := Flat.alloc (hS.below V_w1') (.cells #[] 81)
  go_wp2_with (at_builtin; refine wpList_appT rfl _ _ rfl w1'.heap.size _ 0 0 [] rfl (OwnC.nil0 _ _ _ _ _) _ 5 x_sc _ rfl hS2 (one_ints a.shares) (by omega) (by simp) ?_)
  intro b5 d5 w5 o5 u5 g5 m5
  replace o5 : OwnF 2 eTagged w5 w1'.heap.size b5 5 d5 a.shares := o5
  replace o5 := o5.lower (b' := w.heap.size + 3) S_w1'
  have u9 : Below w1'.heap.size w1' w5 := ((Below.refl _ _).alloc (Nat.le_refl _) _).trans u5
  clear u5 g5 m5 hS2 e5A
  clear e_a_5
  replace B_a := B_a.below u9
  replace B_r := B_r.below u9
  replace B_b := B_b.below u9
  have S_w5 := u9.size
  have V_w5 : Below w.heap.size w w5 := V_w1'.trans (u9.mono V_w1'.size)
  clear V_w1'
  clear u9
  have Q_o5 := Lib.hid o5.feet
  have e_b_5 := B_b.a11_5
  have f_b_5 := B_b.frozen 5
  have e_a_6 := B_a.a11_6
  go_wp2_with fail
  clear e_b_5 f_b_5 e_a_6
  have g_1 : Only [w.heap.size + 2] w5 (w5.setCell ⟨w.heap.size + 2, 5, none⟩ (.slice b5 5 d5)) := (Only.refl _ _).setCell _ _ (by simp)
  replace B_b := B_b.set_ 5 (.slice b5 5 d5)
  generalize w5.setCell ⟨w.heap.size + 2, 5, none⟩ (.slice b5 5 d5) = w2' at *
  have G := g_1
  clear g_1
  simp only [List.setIfInBounds_toArray, List.set_cons_zero, List.set_cons_succ] at B_b
  have V_w2' := (V_w5).trans (G.below (V_w5).size (fun q hq => by have := (V_w5).size; simp at hq; omega))
  replace B_a := B_a.only G (by first | (simp; done) | (simp; omega))
  replace B_r := B_r.only G (by first | (simp; done) | (simp; omega))
  replace o5 := o5.only G (fun q hq hq' => by have := Q_o5.out q hq; simp at hq'; omega)
  have sG0 := G.size
  clear G
  clear V_w5
  have S_w2' : w5.heap.size + 0 ≤ w2'.heap.size := by omega
  clear sG0
  have R5 := Lib.hid o5.feet
  refine (l1Own_any _ _ _ a.keys _ (hK.below V_w2') (by omega)).mono ?_
  rintro e w3' ⟨b6, d6, rfl, o6, u_w3'⟩
  replace B_a := B_a.below u_w3'
  replace B_r := B_r.below u_w3'
  replace B_b := B_b.below u_w3'
  replace o5 := o5.below u_w3'
  have S_w3' := u_w3'.size
  have V_w3' : Below w.heap.size w w3' := V_w2'.trans (u_w3'.mono V_w2'.size)
  clear V_w2'
  clear u_w3'
  have D56 : Disj (foot b5 d5) (foot b6 d6) := Disj.of_rng R5.out o6.feet (Or.inl (Nat.le_refl _))
  replace o6 := o6.lower (b' := w.heap.size + 3) (by have := S_w1'; have := S_w5; have := S_w2'; omega)
  have Q_o6 := Lib.hid o6.feet
  have e_b_6 := B_b.a11_6
  have f_b_6 := B_b.frozen 6
  have e_b_8 := B_b.a11_8
  have f_b_8 := B_b.frozen 8
  have e_a_8 := B_a.a11_8
  go_wp2
  clear e_b_6 f_b_6 e_b_8 f_b_8 e_a_8
  have g_1 : Only [w.heap.size + 2] w3' (w3'.setCell ⟨w.heap.size + 2, 6, none⟩ (.slice b6 5 d6)) := (Only.refl _ _).setCell _ _ (by simp)
  replace B_b := B_b.set_ 6 (.slice b6 5 d6)
  generalize w3'.setCell ⟨w.heap.size + 2, 6, none⟩ (.slice b6 5 d6) = w4_1' at *
  have G := g_1
  clear g_1
  have g_2 : Only [w.heap.size + 2] w4_1' (w4_1'.setCell ⟨w.heap.size + 2, 8, none⟩ (.slice none 0 0)) := (Only.refl _ _).setCell _ _ (by simp)
  replace B_b := B_b.set_ 8 (.slice none 0 0)
  generalize w4_1'.setCell ⟨w.heap.size + 2, 8, none⟩ (.slice none 0 0) = w4' at *
  replace G := G.trans g_2
  clear g_2
  simp only [List.setIfInBounds_toArray, List.set_cons_zero, List.set_cons_succ] at B_b
  have V_w4' := (V_w3').trans (G.below (V_w3').size (fun q hq => by have := (V_w3').size; simp at hq; omega))
  replace B_a := B_a.only G (by first | (simp; done) | (simp; omega))
  replace B_r := B_r.only G (by first | (simp; done) | (simp; omega))
  replace o5 := o5.only G (fun q hq hq' => by have := Q_o5.out q hq; simp at hq'; omega)
  replace o6 := o6.only G (fun q hq hq' => by have := Q_o6.out q hq; simp at hq'; omega)
  have sG0 := G.size
  clear G
  clear V_w3'
  have S_w4' : w3'.heap.size + 0 ≤ w4'.heap.size := by omega
  clear sG0
  have LL : w.heap.size + 3 ≤ w4'.heap.size := by have := S_w1'; have := S_w5; have := S_w2'; have := S_w3'; have := S_w4'; omega
  have R5 := Lib.hid o5.feet
  have R6 := Lib.hid o6.feet
  have LV := Lib.hid V_w4'
  go_loopw [20] (fun v wr => ∃ k : Nat, k ≤ x_hn ∧ v = .int .i64 k ∧ Below w.heap.size w wr ∧ Blk wr w.heap.size 31 #[.int .i64 a.P, .int .i64 a.party, .int .i64 a.input, .int .i64 a.mask, .int .i64 a.delta, .slice x_sa 5 x_sc, .slice x_ka 5 x_kc, .int .i64 a.step, .slice x_ha x_hn x_hc, .int .i64 a.status, .int .i64 a.out] ∧ Blk wr (w.heap.size + 1) 31 #[.int .i64 0, .int .i64 0, .int .i64 0, .int .i64 0, .int .i64 0, .slice none 0 0, .slice none 0 0, .int .i64 0, .slice none 0 0, .int .i64 0, .int .i64 0] ∧ OwnF 2 eTagged wr (w.heap.size + 3) b5 5 d5 a.shares ∧ Own wr (w.heap.size + 3) b6 5 d6 a.keys ∧ w4'.heap.size ≤ wr.heap.size ∧ ∃ c3 d3 rs', Blk wr (w.heap.size + 2) 31 #[.int .i64 a.P, .int .i64 a.party, .int .i64 a.input, .int .i64 a.mask, .int .i64 a.delta, .slice b5 5 d5, .slice b6 5 d6, .int .i64 a.step, .slice c3 k d3, .int .i64 a.status, .int .i64 a.out] ∧ OwnSS wr w4'.heap.size c3 k d3 rs' ∧ datas' rs' = a.heard.take k) (fun v _ => x_hn - (intOf v).toNat)
  case atStart => exact ⟨0, by omega, rfl, LV.out, B_a, B_r, o5, o6, Nat.le_refl _, none, 0, [], B_b, OwnSS.nil0 _ _ _, by simp [datas']⟩
  case round =>
    obtain ⟨k, hk, rfl, V_wr, B_a, B_r, o5, o6, SL, c3, d3, rs', B_b, own, hd3⟩ := hrel
    by_cases hlt : k < x_hn
    · obtain ⟨g, o, rfl, c0, inn⟩ := (hH.below V_wr).at k hlt
      obtain ⟨hr1, hr2⟩ := HR.out k hlt
      have hlt' : (k : Int) < (x_hn : Int) := by omega
      have HE : Hid (a.heard.take (k + 1) = a.heard.take k ++ [(rowAt rs k).2.2]) := Lib.hid (by
        rw [hr1, List.take_add_one]
        have : k < a.heard.length := by rw [HL.out]; exact hlt
        simp [hAt, List.getD, this])
      generalize rowAt rs k = r at *
      obtain ⟨ra, rc, rl⟩ := r
      dsimp only at *
      clear hr1
      have hd4 := Lib.hid hd3
      clear hd3
      have rl4 : rl.length ≤ 10000000 := by omega
      have e_b_8 := B_b.a11_8
      go_wp2
      refine wp_region_noPanic ?_
      refine wp_region_held_drew (S := (fun _ => True)) (by kernel_rfl) ?hS1 (fun hHeld => ?go1)
      case hS1 => trivial
      refine wpAnyH_take (i := 0) (oi := { dst := some 24, op := _, type := _, pos := _, after := _, guard := _ }) (v := ?v0_2) rfl (by kernel_rfl) (by kernel_rfl) (by kernel_rfl) (fun _ _ _ h => h) (Or.inl ⟨by rfl, ?hy0_2⟩) hHeld ?rest0_2
      case hy0_2 => (intro w _; first | (go_simp; done) | (go_simp; with_reducible rfl) | (with_reducible rfl))
      (try simp only [Act.put, List.setIfInBounds_toArray, List.set_cons_zero, List.set_cons_succ])
      refine wpAnyH_take (i := 2) (oi := { dst := some 26, op := _, type := _, pos := _, after := _, guard := _ }) (v := ?v2_3) rfl (by kernel_rfl) (by kernel_rfl) (by kernel_rfl) (fun _ _ _ h => h) (Or.inl ⟨by rfl, ?hy2_3⟩) hHeld ?rest2_3
      case hy2_3 => (intro w _; first | (go_simp; done) | (go_simp; with_reducible rfl) | (with_reducible rfl))
      (try simp only [Act.put, List.setIfInBounds_toArray, List.set_cons_zero, List.set_cons_succ])
      refine wpAnyH_ready (rs := [1, 3]) (by kernel_rfl) (by simp) ?_
      refine AllReadyH.cons (o := { dst := some 25, op := _, type := _, pos := _, after := _, guard := _ }) rfl (fun K hK => ?_) ?_
      go_simp
      refine hK.out _ _ ?_ (fun hHeld => ?_)
      · trivial
      clear hK K
      (try simp only [Act.put, List.setIfInBounds_toArray, List.set_cons_zero, List.set_cons_succ])
      refine wpAnyH_ready (rs := [3]) (by kernel_rfl) (by simp) ?_
      refine AllReadyH.cons (o := { dst := some 27, op := _, type := _, pos := _, after := _, guard := _ }) rfl (fun K hK => ?_) ?_
      go_simp
      refine (l1Own_any _ _ _ rl _ (inn.drew) rl4).mono ?_
      rintro e wz ⟨b9, d9, rfl, o9, u9⟩
      have B_b9 := Blk.below B_b.drew u9
      have h8 := B_b9.cell 8
      have h8A := (Blk.alloc B_b9 (.cells #[.slice b9 rl.length d9] 23)).cell 8
      focus (try go_wp2_with fail)
      refine hK.out _ _ ?_ (fun hHeld => ?_)
      · trivial
      clear hK K
      (try simp only [Act.put, List.setIfInBounds_toArray, List.set_cons_zero, List.set_cons_succ])
      refine wpAnyH_ready (rs := [4]) (by kernel_rfl) (by simp) ?_
      refine AllReadyH.cons (o := { dst := some 28, op := _, type := _, pos := _, after := _, guard := _ }) rfl (fun K hK => ?_) ?_
      go_simp
      refine hK.out _ _ ?_ (fun hHeld => ?_)
      · trivial
      clear hK K
      (try simp only [Act.put, List.setIfInBounds_toArray, List.set_cons_zero, List.set_cons_succ])
      refine wpAnyH_ready (rs := [5]) (by kernel_rfl) (by simp) ?_
      refine AllReadyH.cons (o := { dst := some 29, op := _, type := _, pos := _, after := _, guard := _ }) rfl (fun K hK => ?_) ?_
      have hdj : Disj (foot b9 d9) (feetSS c3 d3 rs') := Disj.of_rng o9.feet own.feet (Or.inr (Nat.le_refl _))
      have own2 := own.below ((Below.refl _ _).drew.trans u9)
      have o10 := o9.lower (b' := w4'.heap.size) SL
      have LIT := RowC.lit1 wz (rowV (b9, d9, rl)) 23
      have own3 := OwnSS.alloc own2 (.cells #[rowV (b9, d9, rl)] 23)
      have o11 := Own.alloc o10 (.cells #[rowV (b9, d9, rl)] 23)
      have OO : OwnC (wz.alloc (.cells #[rowV (b9, d9, rl)] 23)) w4'.heap.size c3 k d3 23 1 (rs'.map rowV) := own3.out
      have szz : w4'.heap.size ≤ (wz.alloc (.cells #[rowV (b9, d9, rl)] 23)).heap.size := by have := u9.size; simp at *; omega
      refine step_appSS (by rfl) _ _ (by rfl) w4'.heap.size c3 k d3 (rs'.map rowV) (by rfl) OO _ 1 1 [rowV (b9, d9, rl)] (by rfl) LIT (by simp [rowV, Value.oneCell']) (by omega) szz ?_
      intro a7 c7 w7 oc u7 g7 m7
      have Ng : w.heap.size + 2 ∉ foot c3 d3 := fun hq => by have := (own.feet _ (List.mem_append_left _ hq)).1; omega
      have B_b7 := Blk.only (Blk.alloc B_b9 (.cells #[rowV (b9, d9, rl)] 23)) (Only.of_grown g7) Ng
      have j8 := B_b7.cell 8
      have f8 := B_b7.frozen 8
      refine hK.out _ _ ?_ (fun hHeld => ?_)
      · trivial
      clear hK K
      (try simp only [Act.put, List.setIfInBounds_toArray, List.set_cons_zero, List.set_cons_succ])
      refine wpAnyH_take (i := 6) (oi := { dst := some 30, op := _, type := _, pos := _, after := _, guard := _ }) (v := ?v6_4) rfl (by kernel_rfl) (by kernel_rfl) (by kernel_rfl) (fun _ _ _ h => h) (Or.inl ⟨by rfl, ?hy6_4⟩) hHeld ?rest6_4
      case hy6_4 => (intro w _; first | (go_simp; done) | (go_simp; with_reducible rfl) | (with_reducible rfl))
      (try simp only [Act.put, List.setIfInBounds_toArray, List.set_cons_zero, List.set_cons_succ])
      refine wpAnyH_ready (rs := [7]) (by kernel_rfl) (by simp) ?_
      refine AllReadyH.cons (o := { dst := none, op := _, type := _, pos := _, after := _, guard := _ }) rfl (fun K hK => ?_) ?_
      go_simp
      refine hK.out _ _ ?_ (fun hHeld => ?_)
      · trivial
      clear hK K
      (try simp only [List.setIfInBounds_toArray, List.set_cons_zero, List.set_cons_succ])
      refine wpAnyH_done (by kernel_rfl) ?_ _
      refine NoPanic.normal ?_
      rotate_left 1
      exact AllReadyH.nil
      exact AllReadyH.nil
      exact AllReadyH.nil
      exact AllReadyH.nil
      refine AllReadyH.cons (o := { dst := some 27, op := _, type := _, pos := _, after := _, guard := _ }) rfl (fun K hK => ?_) ?_
      go_simp
      refine (l1Own_any _ _ _ rl _ (inn.drew) rl4).mono ?_
      rintro e wz ⟨b9, d9, rfl, o9, u9⟩
      have B_b9 := Blk.below B_b.drew u9
      have h8 := B_b9.cell 8
      have h8A := (Blk.alloc B_b9 (.cells #[.slice b9 rl.length d9] 23)).cell 8
      focus (try go_wp2_with fail)
      refine hK.out _ _ ?_ (fun hHeld => ?_)
      · trivial
      clear hK K
      (try simp only [Act.put, List.setIfInBounds_toArray, List.set_cons_zero, List.set_cons_succ])
      refine wpAnyH_ready (rs := [1, 4]) (by kernel_rfl) (by simp) ?_
      refine AllReadyH.cons (o := { dst := some 25, op := _, type := _, pos := _, after := _, guard := _ }) rfl (fun K hK => ?_) ?_
      go_simp
      refine hK.out _ _ ?_ (fun hHeld => ?_)
      · trivial
      clear hK K
      (try simp only [Act.put, List.setIfInBounds_toArray, List.set_cons_zero, List.set_cons_succ])
      refine wpAnyH_ready (rs := [4]) (by kernel_rfl) (by simp) ?_
      refine AllReadyH.cons (o := { dst := some 28, op := _, type := _, pos := _, after := _, guard := _ }) rfl (fun K hK => ?_) ?_
      go_simp
      refine hK.out _ _ ?_ (fun hHeld => ?_)
      · trivial
      clear hK K
      (try simp only [Act.put, List.setIfInBounds_toArray, List.set_cons_zero, List.set_cons_succ])
      refine wpAnyH_ready (rs := [5]) (by kernel_rfl) (by simp) ?_
      refine AllReadyH.cons (o := { dst := some 29, op := _, type := _, pos := _, after := _, guard := _ }) rfl (fun K hK => ?_) ?_
      have hdj : Disj (foot b9 d9) (feetSS c3 d3 rs') := Disj.of_rng o9.feet own.feet (Or.inr (Nat.le_refl _))
      have own2 := own.below ((Below.refl _ _).drew.trans u9)
      have o10 := o9.lower (b' := w4'.heap.size) SL
      have LIT := RowC.lit1 wz (rowV (b9, d9, rl)) 23
      have own3 := OwnSS.alloc own2 (.cells #[rowV (b9, d9, rl)] 23)
      have o11 := Own.alloc o10 (.cells #[rowV (b9, d9, rl)] 23)
      have OO : OwnC (wz.alloc (.cells #[rowV (b9, d9, rl)] 23)) w4'.heap.size c3 k d3 23 1 (rs'.map rowV) := own3.out
      have szz : w4'.heap.size ≤ (wz.alloc (.cells #[rowV (b9, d9, rl)] 23)).heap.size := by have := u9.size; simp at *; omega
      refine step_appSS (by rfl) _ _ (by rfl) w4'.heap.size c3 k d3 (rs'.map rowV) (by rfl) OO _ 1 1 [rowV (b9, d9, rl)] (by rfl) LIT (by simp [rowV, Value.oneCell']) (by omega) szz ?_
      intro a7 c7 w7 oc u7 g7 m7
      have Ng : w.heap.size + 2 ∉ foot c3 d3 := fun hq => by have := (own.feet _ (List.mem_append_left _ hq)).1; omega
      have B_b7 := Blk.only (Blk.alloc B_b9 (.cells #[rowV (b9, d9, rl)] 23)) (Only.of_grown g7) Ng
      have j8 := B_b7.cell 8
      have f8 := B_b7.frozen 8
      refine hK.out _ _ ?_ (fun hHeld => ?_)
      · trivial
      clear hK K
      (try simp only [Act.put, List.setIfInBounds_toArray, List.set_cons_zero, List.set_cons_succ])
      refine wpAnyH_take (i := 6) (oi := { dst := some 30, op := _, type := _, pos := _, after := _, guard := _ }) (v := ?v6_5) rfl (by kernel_rfl) (by kernel_rfl) (by kernel_rfl) (fun _ _ _ h => h) (Or.inl ⟨by rfl, ?hy6_5⟩) hHeld ?rest6_5
      case hy6_5 => (intro w _; first | (go_simp; done) | (go_simp; with_reducible rfl) | (with_reducible rfl))
      (try simp only [Act.put, List.setIfInBounds_toArray, List.set_cons_zero, List.set_cons_succ])
      refine wpAnyH_ready (rs := [7]) (by kernel_rfl) (by simp) ?_
      refine AllReadyH.cons (o := { dst := none, op := _, type := _, pos := _, after := _, guard := _ }) rfl (fun K hK => ?_) ?_
      go_simp
      refine hK.out _ _ ?_ (fun hHeld => ?_)
      · trivial
      clear hK K
      (try simp only [List.setIfInBounds_toArray, List.set_cons_zero, List.set_cons_succ])
      refine wpAnyH_done (by kernel_rfl) ?_ _
      refine NoPanic.normal ?_
      rotate_left 1
      exact AllReadyH.nil
      exact AllReadyH.nil
      exact AllReadyH.nil
      refine AllReadyH.cons (o := { dst := some 28, op := _, type := _, pos := _, after := _, guard := _ }) rfl (fun K hK => ?_) ?_
      go_simp
      refine hK.out _ _ ?_ (fun hHeld => ?_)
      · trivial
      clear hK K
      (try simp only [Act.put, List.setIfInBounds_toArray, List.set_cons_zero, List.set_cons_succ])
      refine wpAnyH_ready (rs := [1]) (by kernel_rfl) (by simp) ?_
      refine AllReadyH.cons (o := { dst := some 25, op := _, type := _, pos := _, after := _, guard := _ }) rfl (fun K hK => ?_) ?_
      go_simp
      refine hK.out _ _ ?_ (fun hHeld => ?_)
      · trivial
      clear hK K
      (try simp only [Act.put, List.setIfInBounds_toArray, List.set_cons_zero, List.set_cons_succ])
      refine wpAnyH_ready (rs := [5]) (by kernel_rfl) (by simp) ?_
      refine AllReadyH.cons (o := { dst := some 29, op := _, type := _, pos := _, after := _, guard := _ }) rfl (fun K hK => ?_) ?_
      have hdj : Disj (foot b9 d9) (feetSS c3 d3 rs') := Disj.of_rng o9.feet own.feet (Or.inr (Nat.le_refl _))
      have own2 := own.below ((Below.refl _ _).drew.trans u9)
      have o10 := o9.lower (b' := w4'.heap.size) SL
      have LIT := RowC.lit1 wz (rowV (b9, d9, rl)) 23
      have own3 := OwnSS.alloc own2 (.cells #[rowV (b9, d9, rl)] 23)
      have o11 := Own.alloc o10 (.cells #[rowV (b9, d9, rl)] 23)
      have OO : OwnC (wz.alloc (.cells #[rowV (b9, d9, rl)] 23)) w4'.heap.size c3 k d3 23 1 (rs'.map rowV) := own3.out
      have szz : w4'.heap.size ≤ (wz.alloc (.cells #[rowV (b9, d9, rl)] 23)).heap.size := by have := u9.size; simp at *; omega
      refine step_appSS (by rfl) _ _ (by rfl) w4'.heap.size c3 k d3 (rs'.map rowV) (by rfl) OO _ 1 1 [rowV (b9, d9, rl)] (by rfl) LIT (by simp [rowV, Value.oneCell']) (by omega) szz ?_
      intro a7 c7 w7 oc u7 g7 m7
      have Ng : w.heap.size + 2 ∉ foot c3 d3 := fun hq => by have := (own.feet _ (List.mem_append_left _ hq)).1; omega
      have B_b7 := Blk.only (Blk.alloc B_b9 (.cells #[rowV (b9, d9, rl)] 23)) (Only.of_grown g7) Ng
      have j8 := B_b7.cell 8
      have f8 := B_b7.frozen 8
      refine hK.out _ _ ?_ (fun hHeld => ?_)
      · trivial
      clear hK K
      (try simp only [Act.put, List.setIfInBounds_toArray, List.set_cons_zero, List.set_cons_succ])
      refine wpAnyH_take (i := 6) (oi := { dst := some 30, op := _, type := _, pos := _, after := _, guard := _ }) (v := ?v6_6) rfl (by kernel_rfl) (by kernel_rfl) (by kernel_rfl) (fun _ _ _ h => h) (Or.inl ⟨by rfl, ?hy6_6⟩) hHeld ?rest6_6
      case hy6_6 => (intro w _; first | (go_simp; done) | (go_simp; with_reducible rfl) | (with_reducible rfl))
      (try simp only [Act.put, List.setIfInBounds_toArray, List.set_cons_zero, List.set_cons_succ])
      refine wpAnyH_ready (rs := [7]) (by kernel_rfl) (by simp) ?_
      refine AllReadyH.cons (o := { dst := none, op := _, type := _, pos := _, after := _, guard := _ }) rfl (fun K hK => ?_) ?_
      go_simp
      refine hK.out _ _ ?_ (fun hHeld => ?_)
      · trivial
      clear hK K
      (try simp only [List.setIfInBounds_toArray, List.set_cons_zero, List.set_cons_succ])
      refine wpAnyH_done (by kernel_rfl) ?_ _
      refine NoPanic.normal ?_
      rotate_left 1
      exact AllReadyH.nil
      exact AllReadyH.nil
      exact AllReadyH.nil
      exact AllReadyH.nil
      exact AllReadyH.nil
      all_goals
        have own4 := own3.push (r := (b9, d9, rl)) o11 hdj oc g7 m7
        have uA : Below wr.heap.size wr wz := (Below.refl _ _).drew.trans u9
        have QR := Lib.hid own.feet
        have hd5 := Lib.hid ((show datas' (rs' ++ [(b9, d9, rl)]) = a.heard.take (k + 1) by rw [HE.out, ← hd4.out]; simp [datas']))
        have SLz := SL
        clear own own2 o9 o10 o11 own3 oc u9 m7 hdj LIT OO szz B_b9 B_b7 h8 h8A j8 f8 c0 inn
        clear e_b_8
        replace B_a := B_a.below uA
        replace B_r := B_r.below uA
        replace B_b := B_b.below uA
        replace o5 := o5.below uA
        replace o6 := o6.below uA
        have S_wz := uA.size
        have V_wz : Below w.heap.size w wz := V_wr.trans (uA.mono V_wr.size)
        clear V_wr
        clear uA
        refine Exists.elim (Blk.new_ wz (b := wz.heap.size) rfl 23 #[.slice b9 rl.length d9]) (fun w5' q => ?_)
        (try rw [q.1] at g7); (try rw [q.1] at u7); (try rw [q.1]); have B_z := q.2.1; have s_w5' := q.2.2.1; have u_w5' := q.2.2.2; clear q
        replace B_a := B_a.below u_w5'
        replace B_r := B_r.below u_w5'
        replace B_b := B_b.below u_w5'
        replace o5 := o5.below u_w5'
        replace o6 := o6.below u_w5'
        have S_w5' : wz.heap.size + 1 ≤ w5'.heap.size := Nat.le_of_eq s_w5'.symm
        have V_w5' := V_wz.trans (u_w5'.mono (V_wz).size)
        clear u_w5' s_w5' V_wz
        clear B_z
        have oG := Only.of_grown g7
        have V_w7 : Below w.heap.size w w7 := V_w5'.trans (u7.mono (show w.heap.size ≤ w4'.heap.size by omega))
        have NN : ∀ q, q ∈ foot c3 d3 → w4'.heap.size ≤ q := fun q hq => (QR.out q (List.mem_append_left _ hq)).1
        replace B_a := Blk.only B_a oG (fun hq => by have := NN _ hq; omega)
        replace B_r := Blk.only B_r oG (fun hq => by have := NN _ hq; omega)
        replace B_b := Blk.only B_b oG (fun hq => by have := NN _ hq; omega)
        replace o5 := OwnF.only o5 oG (fun q hq hq' => by have := NN _ hq'; have := R5.out _ hq; omega)
        replace o6 := o6.only oG (fun q hq hq' => by have := NN _ hq'; have := R6.out _ hq; omega)
        have SLw := oG.size
        clear oG u7 g7 NN
        have Q_own4 := Lib.hid own4.feet
        have g_1 : Only [w.heap.size + 2] w7 (w7.setCell ⟨w.heap.size + 2, 8, none⟩ (.slice a7 (k + 1) c7)) := (Only.refl _ _).setCell _ _ (by simp)
        replace B_b := B_b.set_ 8 (.slice a7 (k + 1) c7)
        generalize w7.setCell ⟨w.heap.size + 2, 8, none⟩ (.slice a7 (k + 1) c7) = w6' at *
        have G := g_1
        clear g_1
        simp only [List.setIfInBounds_toArray, List.set_cons_zero, List.set_cons_succ] at B_b
        have V_w6' := (V_w7).trans (G.below (V_w7).size (fun q hq => by have := (V_w7).size; simp at hq; omega))
        replace B_a := B_a.only G (by first | (simp; done) | (simp; omega))
        replace B_r := B_r.only G (by first | (simp; done) | (simp; omega))
        replace o5 := o5.only G (fun q hq hq' => by have := Q_o5.out q hq; simp at hq'; omega)
        replace o6 := o6.only G (fun q hq hq' => by have := Q_o6.out q hq; simp at hq'; omega)
        replace own4 := own4.only G (fun q hq hq' => by have := Q_own4.out q hq; simp at hq'; omega)
        have sG0 := G.size
        clear G
        clear V_w7
        have S_w6' : w7.heap.size + 0 ≤ w6'.heap.size := by omega
        clear sG0
        go_wp2
        go_roundw
        case rel => exact ⟨k + 1, by omega, by go_num, V_w6', B_a, B_r, o5, o6, by omega, a7, c7, _, B_b, own4, hd5.out⟩
        case measure => simp [intOf]; omega
    · obtain rfl : x_hn = k := by omega
      have QQ := Lib.hid own.feet
      have hdd : datas' rs' = a.heard := by rw [hd3, ← HL.out, List.take_length]
      replace hdd := Lib.hid hdd
      have E1 : Disj (foot b5 d5) (feetSS c3 d3 rs') := Disj.of_rng R5.out own.feet (Or.inl (Nat.le_refl _))
      have E2 : Disj (foot b6 d6) (feetSS c3 d3 rs') := Disj.of_rng R6.out own.feet (Or.inl (Nat.le_refl _))
      replace own := own.lower (b' := w.heap.size + 3) LL
      have Q_own := Lib.hid own.feet
      clear hd3
      have l_b := B_b.ldF (n := 11) rfl
      have e_b_0 := B_b.a11_0
      have f_b_0 := B_b.frozen 0
      have e_b_1 := B_b.a11_1
      have f_b_1 := B_b.frozen 1
      have e_b_2 := B_b.a11_2
      have f_b_2 := B_b.frozen 2
      have e_b_3 := B_b.a11_3
      have f_b_3 := B_b.frozen 3
      have e_b_4 := B_b.a11_4
      have f_b_4 := B_b.frozen 4
      have e_b_5 := B_b.a11_5
      have f_b_5 := B_b.frozen 5
      have e_b_6 := B_b.a11_6
      have f_b_6 := B_b.frozen 6
      have e_b_7 := B_b.a11_7
      have f_b_7 := B_b.frozen 7
      have e_b_8 := B_b.a11_8
      have f_b_8 := B_b.frozen 8
      have e_b_9 := B_b.a11_9
      have f_b_9 := B_b.frozen 9
      have e_b_10 := B_b.a11_10
      have f_b_10 := B_b.frozen 10
      have l_r := B_r.ldF (n := 11) rfl
      have e_r_0 := B_r.a11_0
      have f_r_0 := B_r.frozen 0
      have e_r_1 := B_r.a11_1
      have f_r_1 := B_r.frozen 1
      have e_r_2 := B_r.a11_2
      have f_r_2 := B_r.frozen 2
      have e_r_3 := B_r.a11_3
      have f_r_3 := B_r.frozen 3
      have e_r_4 := B_r.a11_4
      have f_r_4 := B_r.frozen 4
      have e_r_5 := B_r.a11_5
      have f_r_5 := B_r.frozen 5
      have e_r_6 := B_r.a11_6
      have f_r_6 := B_r.frozen 6
      have e_r_7 := B_r.a11_7
      have f_r_7 := B_r.frozen 7
      have e_r_8 := B_r.a11_8
      have f_r_8 := B_r.frozen 8
      have e_r_9 := B_r.a11_9
      have f_r_9 := B_r.frozen 9
      have e_r_10 := B_r.a11_10
      have f_r_10 := B_r.frozen 10
      go_wp2
      clear l_b e_b_0 f_b_0 e_b_1 f_b_1 e_b_2 f_b_2 e_b_3 f_b_3 e_b_4 f_b_4 e_b_5 f_b_5 e_b_6 f_b_6 e_b_7 f_b_7 e_b_8 f_b_8 e_b_9 f_b_9 e_b_10 f_b_10 l_r e_r_0 f_r_0 e_r_1 f_r_1 e_r_2 f_r_2 e_r_3 f_r_3 e_r_4 f_r_4 e_r_5 f_r_5 e_r_6 f_r_6 e_r_7 f_r_7 e_r_8 f_r_8 e_r_9 f_r_9 e_r_10 f_r_10
      refine Exists.elim (B_r.row11 (.int .i64 a.P) (.int .i64 a.party) (.int .i64 a.input) (.int .i64 a.mask) (.int .i64 a.delta) (.slice b5 5 d5) (.slice b6 5 d6) (.int .i64 a.step) (.slice c3 x_hn d3) (.int .i64 a.status) (.int .i64 a.out)) (fun w7' q => ?_)
      rw [q.1]; replace B_r := q.2.1; have G := q.2.2; clear q
      have V_w7' := (V_wr).trans (G.below (V_wr).size (fun q hq => by have := (V_wr).size; simp at hq; omega))
      replace B_a := B_a.only G (by first | (simp; done) | (simp; omega))
      replace B_b := B_b.only G (by first | (simp; done) | (simp; omega))
      replace o5 := o5.only G (fun q hq hq' => by have := Q_o5.out q hq; simp at hq'; omega)
      replace o6 := o6.only G (fun q hq hq' => by have := Q_o6.out q hq; simp at hq'; omega)
      replace own := own.only G (fun q hq hq' => by have := Q_own.out q hq; simp at hq'; omega)
      have sG0 := G.size
      clear G
      clear V_wr
      have S_w7' : wr.heap.size + 0 ≤ w7'.heap.size := by omega
      clear sG0
      have l_r := B_r.ldF (n := 11) rfl
      have e_r_0 := B_r.a11_0
      have e_r_1 := B_r.a11_1
      have e_r_2 := B_r.a11_2
      have e_r_3 := B_r.a11_3
      have e_r_4 := B_r.a11_4
      have e_r_5 := B_r.a11_5
      have e_r_6 := B_r.a11_6
      have e_r_7 := B_r.a11_7
      have e_r_8 := B_r.a11_8
      have e_r_9 := B_r.a11_9
      have e_r_10 := B_r.a11_10
      exact bodyPost_ret (v := .agg #[.int .i64 a.P, .int .i64 a.party, .int .i64 a.input, .int .i64 a.mask, .int .i64 a.delta, .slice b5 5 d5, .slice b6 5 d6, .int .i64 a.step, .slice c3 x_hn d3, .int .i64 a.status, .int .i64 a.out]) (by simp [results, Tryd.results90, go_sem, e_r_0, e_r_1, e_r_2, e_r_3, e_r_4, e_r_5, e_r_6, e_r_7, e_r_8, e_r_9, e_r_10]) rfl ⟨⟨b5, 5, d5, b6, 5, d6, c3, x_hn, d3⟩, _, rfl, ⟨OwnF.lower o5 (by omega), o6.lower (by omega), rs', own.lower (by omega), hdd.out, D56, E1, E2, rfl⟩, V_w7'⟩
end Go.Proofs.YtlmdckcohoddnaaDoor
