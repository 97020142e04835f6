/- Lemmas and walks that the claim's proof rests on, part 8. -/
import Derived.Deep.DeepCutAuto
import Derived.BigRegion
import Derived.StillTailTactics
import Derived.Test.YtlmdckcohoddnaaDoorK2
import Derived.Test.YtlmdckcohoddnaaDoorK4
import Derived.Test.YtlmdckcohoddnaaDoorK7
namespace Go.Proofs.YtlmdckcohoddnaaDoor
open Go.RowKit
set_option maxHeartbeats 4000000 in
set_option maxRecDepth 100000 in
theorem CloneT_any (a : Option Addr) (n c : Nat) (l : List Int) (w : World) (h : Flat 2 w a n c l) (hs : n ≤ 100000) :
    Calls Tryd.prog 124 #[.slice a n c] w fun e w' => ∃ a' c', e = .returned (.slice a' n c') ∧ OwnF 2 eTagged w' w.heap.size a' n c' l ∧ Below w.heap.size w w' := by
  have hnil := fun (W : World) => Lib.run_eql_slice_nil W 29 81 a n c 0 0 Tryd.underlying29
  have hn := h.le
  cases a with
  | none =>
    have hc : c = 0 := h.2.2.2.1 rfl
    have hn0 : n = 0 := by have := h.2.1; omega
    subst hc; subst hn0
    have hl : l = [] := List.eq_nil_of_length_eq_zero (by have := h.len; omega)
    subst hl
    go_enter Tryd.func124, Tryd.ntmps124
    go_wp2
    go_ret
    exact ⟨_, _, rfl, OwnC.nil0 _ _ _ _ _, Below.refl _ _⟩
  | some y =>
    go_enter Tryd.func124, Tryd.ntmps124
    go_wp2_with (at_builtin; refine wpList_appT rfl _ _ rfl w.heap.size _ 0 0 [] rfl (OwnC.nil0 _ _ _ _ _) _ n c _ rfl (Flat.alloc h _) (one_ints l) (by omega) (by simp) ?_)
    intro a2 c2 w1 own hb _ _
    try simp only [Nat.zero_add, List.nil_append] at own
    have hb1 := ((Below.refl _ w).alloc (Nat.le_refl _) _).trans hb
    clear hb
    go_wp2
    go_ret
    exact ⟨_, _, ret_slice (by omega), own, hb1⟩
set_option maxHeartbeats 16000000 in
set_option maxRecDepth 100000 in
theorem copyPlayer_any (a : Pl) (x : PlX) (w : World) (h : PlR w x a.shares a.keys a.heard) (hN : PlN a) :
    Calls Tryd.prog 95 #[.agg #[.int .i64 a.P, .int .i64 a.party, .int .i64 a.input, .int .i64 a.mask, .int .i64 a.delta, .slice x.sa x.sn x.sc, .slice x.ka x.kn x.kc, .int .i64 a.step, .slice x.ha x.hn x.hc, .int .i64 a.status, .int .i64 a.out]] w fun e w' => ∃ y F, e = .returned (.agg #[.int .i64 a.P, .int .i64 a.party, .int .i64 a.input, .int .i64 a.mask, .int .i64 a.delta, .slice y.sa y.sn y.sc, .slice y.ka y.kn y.kc, .int .i64 a.step, .slice y.ha y.hn y.hc, .int .i64 a.status, .int .i64 a.out]) ∧ PlO w' w.heap.size y a.shares a.keys a.heard F ∧ Below w.heap.size w w' := by
  obtain ⟨hS, hK, rs, hH, hD⟩ := h
  have hs5 : x.sn = 5 := by have := hS.len; have := hN.sl; omega
  have hk5 : x.kn = 5 := by have := hK.len; have := hN.kl; omega
  have hrl := hH.len
  have hh3 : x.hn ≤ 3 := by have := hN.hl; have := hN.stp; have : rs.length = a.heard.length := by rw [← hD, datas_len]
                            omega
  have hdl : a.heard.length = x.hn := by rw [← hD, datas_len]; exact hrl
  have HR := Lib.hid (fun (k : Nat) (hk : k < x.hn) => (show (rowAt rs k).2.2 = hAt a.heard k ∧ (rowAt rs k).2.2.length ≤ 4 by
    have e := hAt_rs hD k (by omega)
    exact ⟨e.symm, by rw [← e, (hN.hb k (by omega)).1]; exact (blen_bd k).2⟩))
  have HL := Lib.hid hdl
  have CT := Lib.hid (fun (W : World) (h2 : Flat 2 W x.sa x.sn x.sc a.shares) => CloneT_any x.sa x.sn x.sc a.shares W h2 (by omega))
  have CK := Lib.hid (fun (W : World) (h2 : Ints W x.ka x.kn x.kc a.keys) => Clone_any x.ka x.kn x.kc a.keys W h2 (by omega))
  clear hN hD hrl hdl
  obtain ⟨x_sa, x_sn, x_sc, x_ka, x_kn, x_kc, x_ha, x_hn, x_hc⟩ := x
  dsimp only at *
  subst hs5
  subst hk5
  go_enter Tryd.func95, Tryd.ntmps95
  go_upto_region 1 with fail
  refine Exists.elim (Blk.new_ w (b := w.heap.size) rfl 31 #[.int .i64 a.P, .int .i64 a.party, .int .i64 a.input, .int .i64 a.mask, .int .i64 a.delta, .slice x_sa 5 x_sc, .slice x_ka 5 x_kc, .int .i64 a.step, .slice x_ha x_hn x_hc, .int .i64 a.status, .int .i64 a.out]) (fun w1_a0' q => ?_)
  rw [q.1]; have B_a := q.2.1; have s_w1_a0' := q.2.2.1; have u_w1_a0' := q.2.2.2; clear q
  refine Exists.elim (Blk.new_ w1_a0' (b := w.heap.size + 1) s_w1_a0' 31 #[.int .i64 0, .int .i64 0, .int .i64 0, .int .i64 0, .int .i64 0, .slice none 0 0, .slice none 0 0, .int .i64 0, .slice none 0 0, .int .i64 0, .int .i64 0]) (fun w1' q => ?_)
  rw [q.1]; have B_r := q.2.1; have s_w1' := q.2.2.1; have u_w1' := q.2.2.2; clear q
  replace B_a := (B_a.below u_w1')
  have U := (u_w1_a0'.trans (u_w1'.mono u_w1_a0'.size))
  have S_w1' : w.heap.size + 2 ≤ w1'.heap.size := Nat.le_of_eq s_w1'.symm
  have V_w1' := (Below.refl w.heap.size w).trans (U.mono ((Below.refl w.heap.size w)).size)
  clear u_w1_a0' u_w1' s_w1_a0' s_w1' U
  have e_a_0 := B_a.a11_0
  have e_a_1 := B_a.a11_1
  have e_a_2 := B_a.a11_2
  have e_a_3 := B_a.a11_3
  have e_a_4 := B_a.a11_4
  have e_a_5 := B_a.a11_5
  have e_a_6 := B_a.a11_6
  have e_a_7 := B_a.a11_7
  have e_a_8 := B_a.a11_8
  have e_a_9 := B_a.a11_9
  have e_a_10 := B_a.a11_10
  have hS1 := hS.below V_w1'.drew
  have hK1 := hK.below V_w1'.drew
  have B1 := B_a.drew
  go_region_with (first
    | (go_at_call 124; refine (CT.out _ hS1).mono ?_; rintro e wa ⟨b5, d5, rfl, o5, u5⟩; have B2 := Blk.below B1 u5; have g6 := B2.cell 6; have hK2 := hK1.below u5)
    | (go_at_call 118; refine (CK.out _ hK2).mono ?_; rintro e wb ⟨b6, d6, rfl, o6, u6⟩; have B3 := Blk.below B2 u6; have h5 := B3.cell 5; have h6 := B3.cell 6; have k5 := B3.frozen 5; have k6 := B3.frozen 6))
  all_goals
    have u9 : Below w1'.heap.size w1' wb := (Below.refl _ _).drew.trans (u5.trans (u6.mono u5.size))
    have D56 : Disj (foot b5 d5) (foot b6 d6) := Disj.of_rng o5.feet o6.feet (Or.inl (Nat.le_refl _))
    replace o5 := (OwnF.below o5 u6).lower (b' := w.heap.size + 2) S_w1'
    replace o6 := o6.lower (b' := w.heap.size + 2) (Nat.le_trans S_w1' u5.size)
    clear u5 u6 B1 B2 B3 g6 hK1 hK2 hS1 h5 h6 k5 k6
    clear e_a_0 e_a_1 e_a_2 e_a_3 e_a_4 e_a_5 e_a_6 e_a_7 e_a_8 e_a_9 e_a_10
    replace B_a := B_a.below u9
    replace B_r := B_r.below u9
    have S_wb := u9.size
    have V_wb : Below w.heap.size w wb := V_w1'.trans (u9.mono V_w1'.size)
    clear V_w1'
    clear u9
    have Q_o5 := Lib.hid o5.feet
    have Q_o6 := Lib.hid o6.feet
    have g_1 : Only [w.heap.size] wb (wb.setCell ⟨w.heap.size, 5, none⟩ (.slice b5 5 d5)) := (Only.refl _ _).setCell _ _ (by simp)
    replace B_a := B_a.set_ 5 (.slice b5 5 d5)
    generalize wb.setCell ⟨w.heap.size, 5, none⟩ (.slice b5 5 d5) = w2_1' at *
    have G := g_1
    clear g_1
    have g_2 : Only [w.heap.size] w2_1' (w2_1'.setCell ⟨w.heap.size, 6, none⟩ (.slice b6 5 d6)) := (Only.refl _ _).setCell _ _ (by simp)
    replace B_a := B_a.set_ 6 (.slice b6 5 d6)
    generalize w2_1'.setCell ⟨w.heap.size, 6, none⟩ (.slice b6 5 d6) = w2' at *
    replace G := G.trans g_2
    clear g_2
    simp only [List.setIfInBounds_toArray, List.set_cons_zero, List.set_cons_succ] at B_a
    have V_w2' := (V_wb).trans (G.below (V_wb).size (fun q hq => by have := (V_wb).size; simp at hq; omega))
    replace B_r := B_r.only G (by first | (simp; done) | (simp; omega))
    replace o5 := o5.only G (fun q hq hq' => by have := Q_o5.out q hq; simp at hq'; omega)
    replace o6 := o6.only G (fun q hq hq' => by have := Q_o6.out q hq; simp at hq'; omega)
    have sG0 := G.size
    clear G
    clear V_wb
    have S_w2' : wb.heap.size + 0 ≤ w2'.heap.size := by omega
    clear sG0
    have e_a_0 := B_a.a11_0
    have e_a_1 := B_a.a11_1
    have e_a_2 := B_a.a11_2
    have e_a_3 := B_a.a11_3
    have e_a_4 := B_a.a11_4
    have e_a_5 := B_a.a11_5
    have e_a_6 := B_a.a11_6
    have e_a_7 := B_a.a11_7
    have e_a_8 := B_a.a11_8
    have e_a_9 := B_a.a11_9
    have e_a_10 := B_a.a11_10
    have e8A : (w2'.alloc (.cells #[] 23)).cell? ⟨w.heap.size, 8, none⟩ = some (.slice x_ha x_hn x_hc) := keepA _ e_a_8
    go_wp2
    clear e_a_0 e_a_1 e_a_2 e_a_3 e_a_4 e_a_5 e_a_6 e_a_7 e_a_8 e_a_9 e_a_10
    clear e8A
    refine Exists.elim (Blk.new_ w2' (b := w2'.heap.size) rfl 23 #[]) (fun w3' q => ?_)
    rw [q.1]; have B_z := q.2.1; have s_w3' := q.2.2.1; have u_w3' := q.2.2.2; clear q
    replace B_a := B_a.below u_w3'
    replace B_r := B_r.below u_w3'
    replace o5 := o5.below u_w3'
    replace o6 := o6.below u_w3'
    have S_w3' : w2'.heap.size + 1 ≤ w3'.heap.size := Nat.le_of_eq s_w3'.symm
    have V_w3' := V_w2'.trans (u_w3'.mono (V_w2').size)
    clear u_w3' s_w3' V_w2'
    clear B_z
    have VB := V_w3'
    have SB := V_w3'.size
    have SB2 : w.heap.size + 2 ≤ w3'.heap.size := by have := S_w1'; have := S_wb; have := S_w2'; have := S_w3'; omega
    have R5 := Lib.hid o5.feet
    have R6 := Lib.hid o6.feet
    go_loopw [3, 18] (fun v u wr => ∃ k : Nat, k ≤ x_hn ∧ u = .int .i64 k ∧ Below w3'.heap.size w3' wr ∧ ∃ c3 d3 rs', v = .slice c3 k d3 ∧ OwnSS wr w3'.heap.size c3 k d3 rs' ∧ datas' rs' = a.heard.take k) (fun _ u _ => x_hn - (intOf u).toNat)
    case atStart => exact ⟨0, by omega, rfl, Below.refl _ _, _, _, [], rfl, OwnSS.nil0 _ _ _, by simp [datas']⟩
    case round =>
      obtain ⟨k, hk, rfl, hbel, c3, d3, rs', rfl, own, hd3⟩ := hrel
      have B_a := B_a.below hbel
      have B_r := B_r.below hbel
      have o5 := o5.below hbel
      have o6 := o6.below hbel
      have V_wr := V_w3'.trans (hbel.mono V_w3'.size)
      have S_wr := hbel.size
      by_cases hlt : k < x_hn
      · obtain ⟨g, o, rfl, c0, inn⟩ := (hH.below V_wr).at k hlt
        obtain ⟨hr1, hr2⟩ := HR.out k hlt
        have hlt' : (k : Int) < (x_hn : Int) := by omega
        have HE : Hid (a.heard.take (k + 1) = a.heard.take k ++ [(rowAt rs k).2.2]) := Lib.hid (by
          rw [hr1, List.take_add_one]
          have : k < a.heard.length := by rw [HL.out]; exact hlt
          simp [hAt, List.getD, this])
        generalize rowAt rs k = r at *
        obtain ⟨ra, rc, rl⟩ := r
        dsimp only at *
        clear hr1
        have hd4 := Lib.hid hd3
        clear hd3
        go_wp2_with fail
        refine (Clone_any _ _ _ rl _ inn (by omega)).mono ?_; rintro e wz ⟨b9, d9, rfl, o9, u9⟩
        have own2 := own.below u9
        have hb9 := hbel.trans (u9.mono hbel.size)
        have hdj : Disj (foot b9 d9) (feetSS c3 d3 rs') := Disj.of_rng o9.feet own.feet (Or.inr (Nat.le_refl _))
        have o10 := o9.lower hbel.size
        have LIT := RowC.lit1 wz (rowV (b9, d9, rl)) 23
        have own3 := OwnSS.alloc own2 (.cells #[rowV (b9, d9, rl)] 23)
        have o11 := Own.alloc o10 (.cells #[rowV (b9, d9, rl)] 23)
        have hbA := hb9.alloc hb9.size (.cells #[rowV (b9, d9, rl)] 23)
        have hszA := hbA.size
        have OO : OwnC (wz.alloc (.cells #[rowV (b9, d9, rl)] 23)) w3'.heap.size c3 k d3 23 1 (rs'.map rowV) := own3.out
        clear own own2 hb9 o9 o10 u9 c0 inn
        go_wp2_with (at_builtin; go_loud (refine wpList_appSS rfl _ _ rfl w3'.heap.size c3 k d3 (rs'.map rowV) rfl OO _ 1 1 [rowV (b9, d9, rl)] rfl LIT (by simp [rowV, Value.oneCell']) (by omega) hszA ?_))
        intro a7 c7 w7 oc u7 g7 m7
        have own4 := own3.push (r := (b9, d9, rl)) o11 hdj oc g7 m7
        have hb7 := hbA.trans u7
        have hd5 := Lib.hid ((show datas' (rs' ++ [(b9, d9, rl)]) = a.heard.take (k + 1) by rw [HE.out, ← hd4.out]; simp [datas']))
        clear own3 o11 oc u7 g7 m7 hbA hdj LIT OO hszA
        go_wp2
        go_roundw
        case rel => exact ⟨k + 1, by omega, by go_num, hb7, a7, c7, _, rfl, own4, hd5.out⟩
        case measure => simp [intOf]; omega
      · obtain rfl : x_hn = k := by omega
        have QQ := Lib.hid own.feet
        have hdd : datas' rs' = a.heard := by rw [hd3, ← HL.out, List.take_length]
        replace hdd := Lib.hid hdd
        have E1 : Disj (foot b5 d5) (feetSS c3 d3 rs') := Disj.of_rng R5.out own.feet (Or.inl (Nat.le_refl _))
        have E2 : Disj (foot b6 d6) (feetSS c3 d3 rs') := Disj.of_rng R6.out own.feet (Or.inl (Nat.le_refl _))
        replace own := own.lower (b' := w.heap.size + 2) SB2
        have Q_own := Lib.hid own.feet
        clear hd3 hbel
        have e_a_0 := B_a.a11_0
        have f_a_0 := B_a.frozen 0
        have e_a_1 := B_a.a11_1
        have f_a_1 := B_a.frozen 1
        have e_a_2 := B_a.a11_2
        have f_a_2 := B_a.frozen 2
        have e_a_3 := B_a.a11_3
        have f_a_3 := B_a.frozen 3
        have e_a_4 := B_a.a11_4
        have f_a_4 := B_a.frozen 4
        have e_a_5 := B_a.a11_5
        have f_a_5 := B_a.frozen 5
        have e_a_6 := B_a.a11_6
        have f_a_6 := B_a.frozen 6
        have e_a_7 := B_a.a11_7
        have f_a_7 := B_a.frozen 7
        have e_a_8 := B_a.a11_8
        have f_a_8 := B_a.frozen 8
        have e_a_9 := B_a.a11_9
        have f_a_9 := B_a.frozen 9
        have e_a_10 := B_a.a11_10
        have f_a_10 := B_a.frozen 10
        have e_r := B_r.all11
        have f_r := B_r.frz11
        go_wp2
        clear e_a_0 f_a_0 e_a_1 f_a_1 e_a_2 f_a_2 e_a_3 f_a_3 e_a_4 f_a_4 e_a_5 f_a_5 e_a_6 f_a_6 e_a_7 f_a_7 e_a_8 f_a_8 e_a_9 f_a_9 e_a_10 f_a_10 e_r f_r
        have g_1 : Only [w.heap.size] wr (wr.setCell ⟨w.heap.size, 8, none⟩ (.slice c3 x_hn d3)) := (Only.refl _ _).setCell _ _ (by simp)
        replace B_a := B_a.set_ 8 (.slice c3 x_hn d3)
        generalize wr.setCell ⟨w.heap.size, 8, none⟩ (.slice c3 x_hn d3) = w4_1' at *
        have G := g_1
        clear g_1
        simp only [List.setIfInBounds_toArray, List.set_cons_zero, List.set_cons_succ] at B_a
        have V_w4'_0 := (V_wr).trans (G.below (V_wr).size (fun q hq => by have := (V_wr).size; simp at hq; omega))
        replace B_r := B_r.only G (by first | (simp; done) | (simp; omega))
        replace o5 := o5.only G (fun q hq hq' => by have := Q_o5.out q hq; simp at hq'; omega)
        replace o6 := o6.only G (fun q hq hq' => by have := Q_o6.out q hq; simp at hq'; omega)
        replace own := own.only G (fun q hq hq' => by have := Q_own.out q hq; simp at hq'; omega)
        have sG0 := G.size
        clear G
        clear V_wr
        refine Exists.elim (B_r.row11 (.int .i64 a.P) (.int .i64 a.party) (.int .i64 a.input) (.int .i64 a.mask) (.int .i64 a.delta) (.slice b5 5 d5) (.slice b6 5 d6) (.int .i64 a.step) (.slice c3 x_hn d3) (.int .i64 a.status) (.int .i64 a.out)) (fun w4' q => ?_)
        rw [q.1]; replace B_r := q.2.1; have G := q.2.2; clear q
        have V_w4' := (V_w4'_0).trans (G.below (V_w4'_0).size (fun q hq => by have := (V_w4'_0).size; simp at hq; omega))
        replace B_a := B_a.only G (by first | (simp; done) | (simp; omega))
        replace o5 := o5.only G (fun q hq hq' => by have := Q_o5.out q hq; simp at hq'; omega)
        replace o6 := o6.only G (fun q hq hq' => by have := Q_o6.out q hq; simp at hq'; omega)
        replace own := own.only G (fun q hq hq' => by have := Q_own.out q hq; simp at hq'; omega)
        have sG1 := G.size
        clear G
        clear V_w4'_0
        have S_w4' : wr.heap.size + 0 ≤ w4'.heap.size := by omega
        clear sG0 sG1
        have e_r := B_r.all11
        exact bodyPost_ret (v := .agg #[.int .i64 a.P, .int .i64 a.party, .int .i64 a.input, .int .i64 a.mask, .int .i64 a.delta, .slice b5 5 d5, .slice b6 5 d6, .int .i64 a.step, .slice c3 x_hn d3, .int .i64 a.status, .int .i64 a.out]) (by simp [results, Tryd.results95, go_sem, e_r]) rfl ⟨⟨b5, 5, d5, b6, 5, d6, c3, x_hn, d3⟩, _, rfl, ⟨OwnF.lower o5 (by omega), o6.lower (by omega), rs', own.lower (by omega), hdd.out, D56, E1, E2, rfl⟩, V_w4'⟩
end Go.Proofs.YtlmdckcohoddnaaDoor
namespace Go.Proofs.YtlmdckcohoddnaaDoor
open Go.RowKit
set_option maxHeartbeats 8000000 in
set_option maxRecDepth 100000 in
theorem ptFirst_any (a : Pl) (x : PlX) (w : World) (h : PlR w x a.shares a.keys a.heard) (hN : PlN a) (hs : 1 ≤ a.step) :
    Calls Tryd.prog 138 #[.agg #[.int .i64 a.P, .int .i64 a.party, .int .i64 a.input, .int .i64 a.mask, .int .i64 a.delta, .slice x.sa x.sn x.sc, .slice x.ka x.kn x.kc, .int .i64 a.step, .slice x.ha x.hn x.hc, .int .i64 a.status, .int .i64 a.out]] w fun e w' => ∃ b c, e = .returned (.slice b 2 c) ∧ Ints w' b 2 c [f0 a, f1 a] ∧ Below w.heap.size w w' := by
  have i1 := hN.ip
  have m1 := hN.mks
  have hp1 := hN.p1
  have hp2 := hN.p2
  have hlen := hN.hl
  have hpa := hN.party01
  obtain ⟨hhn, g, o, r, hx, e0, inn, hr⟩ := h.hd 0 (by omega)
  have hrl := (hN.hb 0 (by omega)).1
  rw [← hr] at hrl
  have hrl' : r.2.2.length = 1 := hrl
  obtain ⟨g2, o2, hr1, e1⟩ := inn.at 0 (by omega)
  have hv : r.2.2.getD 0 0 = hdI a 0 0 := by rw [hr]; rfl
  rw [hv] at e1
  rw [hr1, hrl'] at e0
  have hnp : (0 : Int) < (x.hn : Int) := by omega
  clear hr hrl hrl' hr1 hv inn hhn hlen h
  simp only [Nat.add_zero] at e0 e1
  obtain ⟨x_sa, x_sn, x_sc, x_ka, x_kn, x_kc, x_ha, x_hn, x_hc⟩ := x
  dsimp only at *
  subst hx
  have F0 : f0 a = if a.party = 0 then mkI a else hdI a 0 0 := rfl
  have F1 : f1 a = if a.party = 0 then hdI a 0 0 else mkI a := rfl
  have MK : mkI a = (a.input - a.mask) % a.P := rfl
  generalize f0 a = ff0 at *
  generalize f1 a = ff1 at *
  generalize mkI a = mk0 at *
  generalize hdI a 0 0 = y0 at *
  clear hN hs
  obtain ⟨P, pa, ip, mk, de, S, K, st0, H, ss, ou⟩ := a
  dsimp only at *
  have t1 : IntKind.i64.wrap (ip - mk) = ip - mk := IntWalk.i64_in _ (by omega)
  replace MK := Lib.hid MK
  rcases hpa with rfl | rfl
  all_goals
    first | rw [if_pos rfl] at F0 F1 | rw [if_neg (by omega)] at F0 F1
    replace F0 := Lib.hid F0
    replace F1 := Lib.hid F1
  · skip
    go_enter Tryd.func138, Tryd.ntmps138
    go_upto_region 1 with fail
    refine Exists.elim (Blk.new_ w (b := w.heap.size) rfl 31 #[.int .i64 P, .int .i64 0, .int .i64 ip, .int .i64 mk, .int .i64 de, .slice x_sa x_sn x_sc, .slice x_ka x_kn x_kc, .int .i64 st0, .slice (some ⟨g, o, none⟩) x_hn x_hc, .int .i64 ss, .int .i64 ou]) (fun w1' q => ?_)
    rw [q.1]; have B_a := q.2.1; have s_w1' := q.2.2.1; have u_w1' := q.2.2.2; clear q
    have S_w1' : w.heap.size + 1 ≤ w1'.heap.size := Nat.le_of_eq s_w1'.symm
    have V_w1' := (Below.refl w.heap.size w).trans (u_w1'.mono ((Below.refl w.heap.size w)).size)
    clear u_w1' s_w1'
    have e_a := B_a.all11
    have q0 := keepC V_w1' e0
    have q1 := keepC V_w1' e1
    go_region
    clear e_a
    clear q0 q1
    have oL : Own ((w1'.alloc (.cells #[.int .i64 y0, .int .i64 y0] 3)).drew) w1'.heap.size (some ⟨w1'.heap.size, 0, none⟩) 2 2 [y0, y0] := (Own.lit w1' _ [y0, y0] (Nat.le_refl _) (by simp [maxLen])).drew
    have SW := V_w1'.size
    refine Exists.elim (Blk.new_ w1' (b := w1'.heap.size) rfl 3 #[.int .i64 y0, .int .i64 y0]) (fun w2p' q => ?_)
    (try rw [q.1] at oL); (try rw [q.1]); have B_z := q.2.1; have s_w2p' := q.2.2.1; have u_w2p' := q.2.2.2; clear q
    replace B_a := B_a.below u_w2p'
    have S_w2p' : w1'.heap.size + 1 ≤ w2p'.heap.size := Nat.le_of_eq s_w2p'.symm
    have V_w2p' := V_w1'.trans (u_w2p'.mono (V_w1').size)
    clear u_w2p' s_w2p' V_w1'
    have V_w2'_1 : Below w.heap.size w w2p'.drew := (V_w2p').drew
    replace B_a := B_a.drew
    replace B_z := B_z.drew
    have S_w2' : w2p'.heap.size + 0 ≤ w2p'.drew.heap.size := by first | (simp; done) | (simp; omega) | (simp [World.setCell]; done) | (simp [World.setCell]; omega)
    generalize w2p'.drew = w2' at *
    have V_w2' : Below w.heap.size w w2' := V_w2'_1
    clear V_w2p'
    clear V_w2'_1
    generalize w1'.heap.size = gL at *
    clear B_z
    obtain ⟨_, E, _, _, c0, c1, c2⟩ := oL.at 0 (by omega)
    cases E
    have e_a := B_a.all11
    have SS := oL.drew
    go_wp2
    refine wp_region_still_tail 12 (by kernel_rfl) (by kernel_rfl) ?_
    simp only [List.take_succ_cons, List.take_zero, List.drop_succ_cons, List.drop_zero]
    repeat (first | still_step | still_call (btMod_same _ _ _ (by omega) (by omega)))
    refine wpStill_nil ?_
    change wpList _ _ _ _ _ w2'.drew
    clear e_a
    have oD := oL.drew
    clear oL SS
    rw [← MK.out]
    obtain ⟨_, E, _, _, c0, c1, c2⟩ := oD.at 0 (by omega)
    cases E
    have c3 := Lib.hid (c2 mk0)
    clear c2
    go_wp2
    go_ret
    exact ⟨_, _, rfl, by rw [F0.out, F1.out]; exact c3.out.ints, V_w2'.drew.setCell (p := ⟨gL, 0, none⟩) SW _⟩
  · skip
    go_enter Tryd.func138, Tryd.ntmps138
    go_upto_region 1 with fail
    refine Exists.elim (Blk.new_ w (b := w.heap.size) rfl 31 #[.int .i64 P, .int .i64 1, .int .i64 ip, .int .i64 mk, .int .i64 de, .slice x_sa x_sn x_sc, .slice x_ka x_kn x_kc, .int .i64 st0, .slice (some ⟨g, o, none⟩) x_hn x_hc, .int .i64 ss, .int .i64 ou]) (fun w3' q => ?_)
    rw [q.1]; have B_a := q.2.1; have s_w3' := q.2.2.1; have u_w3' := q.2.2.2; clear q
    have S_w3' : w.heap.size + 1 ≤ w3'.heap.size := Nat.le_of_eq s_w3'.symm
    have V_w3' := (Below.refl w.heap.size w).trans (u_w3'.mono ((Below.refl w.heap.size w)).size)
    clear u_w3' s_w3'
    have e_a := B_a.all11
    have q0 := keepC V_w3' e0
    have q1 := keepC V_w3' e1
    go_region
    clear e_a
    clear q0 q1
    have oL : Own ((w3'.alloc (.cells #[.int .i64 y0, .int .i64 y0] 3)).drew) w3'.heap.size (some ⟨w3'.heap.size, 0, none⟩) 2 2 [y0, y0] := (Own.lit w3' _ [y0, y0] (Nat.le_refl _) (by simp [maxLen])).drew
    have SW := V_w3'.size
    refine Exists.elim (Blk.new_ w3' (b := w3'.heap.size) rfl 3 #[.int .i64 y0, .int .i64 y0]) (fun w4p' q => ?_)
    (try rw [q.1] at oL); (try rw [q.1]); have B_z := q.2.1; have s_w4p' := q.2.2.1; have u_w4p' := q.2.2.2; clear q
    replace B_a := B_a.below u_w4p'
    have S_w4p' : w3'.heap.size + 1 ≤ w4p'.heap.size := Nat.le_of_eq s_w4p'.symm
    have V_w4p' := V_w3'.trans (u_w4p'.mono (V_w3').size)
    clear u_w4p' s_w4p' V_w3'
    have V_w4'_1 : Below w.heap.size w w4p'.drew := (V_w4p').drew
    replace B_a := B_a.drew
    replace B_z := B_z.drew
    have S_w4' : w4p'.heap.size + 0 ≤ w4p'.drew.heap.size := by first | (simp; done) | (simp; omega) | (simp [World.setCell]; done) | (simp [World.setCell]; omega)
    generalize w4p'.drew = w4' at *
    have V_w4' : Below w.heap.size w w4' := V_w4'_1
    clear V_w4p'
    clear V_w4'_1
    generalize w3'.heap.size = gL at *
    clear B_z
    obtain ⟨_, E, _, _, c0, c1, c2⟩ := oL.at 1 (by omega)
    cases E
    have e_a := B_a.all11
    have SS := oL.drew
    go_wp2
    refine wp_region_still_tail 12 (by kernel_rfl) (by kernel_rfl) ?_
    simp only [List.take_succ_cons, List.take_zero, List.drop_succ_cons, List.drop_zero]
    repeat (first | still_step | still_call (btMod_same _ _ _ (by omega) (by omega)))
    refine wpStill_nil ?_
    change wpList _ _ _ _ _ w4'.drew
    clear e_a
    have oD := oL.drew
    clear oL SS
    rw [← MK.out]
    obtain ⟨_, E, _, _, c0, c1, c2⟩ := oD.at 1 (by omega)
    cases E
    have c3 := Lib.hid (c2 mk0)
    clear c2
    go_wp2
    go_ret
    exact ⟨_, _, rfl, by rw [F0.out, F1.out]; exact c3.out.ints, V_w4'.drew.setCell (p := ⟨gL, 1, none⟩) SW _⟩
set_option maxHeartbeats 8000000 in
set_option maxRecDepth 100000 in
theorem ptShift_any (a : Pl) (x : PlX) (v t k : Int) (w : World) (hN : PlN a) (hv : 0 ≤ v ∧ v ≤ 1000) (hk : 0 ≤ k ∧ k ≤ 1000) :
    Calls Tryd.prog 143 #[.agg #[.int .i64 a.P, .int .i64 a.party, .int .i64 a.input, .int .i64 a.mask, .int .i64 a.delta, .slice x.sa x.sn x.sc, .slice x.ka x.kn x.kc, .int .i64 a.step, .slice x.ha x.hn x.hc, .int .i64 a.status, .int .i64 a.out], .agg #[.int .i64 v, .int .i64 t], .int .i64 k] w fun e w' => e = .returned (.agg #[.int .i64 (shfV a v k), .int .i64 t]) ∧ Below w.heap.size w w' := by
  have hp1 := hN.p1
  have hp2 := hN.p2
  have t1 : IntKind.i64.wrap (v + k) = v + k := IntWalk.i64_in _ (by omega)
  have t2 : (v + k).tmod a.P = (v + k) % a.P := Int.tmod_eq_emod_of_nonneg (by omega)
  have t3 : IntKind.i64.wrap ((v + k) % a.P) = (v + k) % a.P := IntWalk.i64_in _ (by have := emod_rng (v + k) a.P (by omega); omega)
  have t7 : (a.P == 0) = false := by simp; omega
  have t8 : (a.P = 0) = False := by simp; omega
  clear hN
  unfold shfV
  by_cases k0 : a.party = 0
  · rw [if_pos k0]
    have k1 : ((a.party == 0) : Bool) = true := by simpa using k0
    clear k0
    go_enter Tryd.func143, Tryd.ntmps143
    go_upto_if 9 with fail
    refine Exists.elim (Blk.new_ w (b := w.heap.size) rfl 31 #[.int .i64 a.P, .int .i64 a.party, .int .i64 a.input, .int .i64 a.mask, .int .i64 a.delta, .slice x.sa x.sn x.sc, .slice x.ka x.kn x.kc, .int .i64 a.step, .slice x.ha x.hn x.hc, .int .i64 a.status, .int .i64 a.out]) (fun w1_a0' q => ?_)
    rw [q.1]; have B_a := q.2.1; have s_w1_a0' := q.2.2.1; have u_w1_a0' := q.2.2.2; clear q
    refine Exists.elim (Blk.new_ w1_a0' (b := w.heap.size + 1) s_w1_a0' 81 #[.int .i64 v, .int .i64 t]) (fun w1_a1' q => ?_)
    rw [q.1]; have B_y := q.2.1; have s_w1_a1' := q.2.2.1; have u_w1_a1' := q.2.2.2; clear q
    refine Exists.elim (Blk.new_ w1_a1' (b := w.heap.size + 2) s_w1_a1' 81 #[.int .i64 0, .int .i64 0]) (fun w1' q => ?_)
    rw [q.1]; have B_r := q.2.1; have s_w1' := q.2.2.1; have u_w1' := q.2.2.2; clear q
    replace B_a := ((B_a.below u_w1_a1').below u_w1')
    replace B_y := (B_y.below u_w1')
    have U := (u_w1_a0'.trans ((u_w1_a1'.trans (u_w1'.mono u_w1_a1'.size)).mono u_w1_a0'.size))
    have S_w1' : w.heap.size + 3 ≤ w1'.heap.size := Nat.le_of_eq s_w1'.symm
    have V_w1' := (Below.refl w.heap.size w).trans (U.mono ((Below.refl w.heap.size w)).size)
    clear u_w1_a0' u_w1_a1' u_w1' s_w1_a0' s_w1_a1' s_w1' U
    have e_a := B_a.all11
    have e_y := B_y.all2
    have f_y := B_y.frz2
    have e_r := B_r.all2
    have f_r := B_r.frz2
    go_wp2
    have V9 := ((V_w1'.setCell (p := ⟨w.heap.size + 1, 0, none⟩) (by simp) (.int .i64 ((v + k) % a.P))).setCell (p := ⟨w.heap.size + 2, 0, none⟩) (by simp) (.int .i64 ((v + k) % a.P))).setCell (p := ⟨w.heap.size + 2, 1, none⟩) (by simp) (.int .i64 t)
    exact bodyPost_ret (v := .agg #[.int .i64 ((v + k) % a.P), .int .i64 t]) (by simp [results, Tryd.results143, go_sem, e_r]) rfl ⟨rfl, V9⟩
  · rw [if_neg k0]
    have k1 : ((a.party == 0) : Bool) = false := by simpa using k0
    clear k0
    go_enter Tryd.func143, Tryd.ntmps143
    go_upto_if 9 with fail
    refine Exists.elim (Blk.new_ w (b := w.heap.size) rfl 31 #[.int .i64 a.P, .int .i64 a.party, .int .i64 a.input, .int .i64 a.mask, .int .i64 a.delta, .slice x.sa x.sn x.sc, .slice x.ka x.kn x.kc, .int .i64 a.step, .slice x.ha x.hn x.hc, .int .i64 a.status, .int .i64 a.out]) (fun w2_a0' q => ?_)
    rw [q.1]; have B_a := q.2.1; have s_w2_a0' := q.2.2.1; have u_w2_a0' := q.2.2.2; clear q
    refine Exists.elim (Blk.new_ w2_a0' (b := w.heap.size + 1) s_w2_a0' 81 #[.int .i64 v, .int .i64 t]) (fun w2_a1' q => ?_)
    rw [q.1]; have B_y := q.2.1; have s_w2_a1' := q.2.2.1; have u_w2_a1' := q.2.2.2; clear q
    refine Exists.elim (Blk.new_ w2_a1' (b := w.heap.size + 2) s_w2_a1' 81 #[.int .i64 0, .int .i64 0]) (fun w2' q => ?_)
    rw [q.1]; have B_r := q.2.1; have s_w2' := q.2.2.1; have u_w2' := q.2.2.2; clear q
    replace B_a := ((B_a.below u_w2_a1').below u_w2')
    replace B_y := (B_y.below u_w2')
    have U := (u_w2_a0'.trans ((u_w2_a1'.trans (u_w2'.mono u_w2_a1'.size)).mono u_w2_a0'.size))
    have S_w2' : w.heap.size + 3 ≤ w2'.heap.size := Nat.le_of_eq s_w2'.symm
    have V_w2' := (Below.refl w.heap.size w).trans (U.mono ((Below.refl w.heap.size w)).size)
    clear u_w2_a0' u_w2_a1' u_w2' s_w2_a0' s_w2_a1' s_w2' U
    have e_a := B_a.all11
    have e_y := B_y.all2
    have f_y := B_y.frz2
    have e_r := B_r.all2
    have f_r := B_r.frz2
    go_wp2
    have V9 := (V_w2'.setCell (p := ⟨w.heap.size + 2, 0, none⟩) (by simp) (.int .i64 v)).setCell (p := ⟨w.heap.size + 2, 1, none⟩) (by simp) (.int .i64 t)
    exact bodyPost_ret (v := .agg #[.int .i64 v, .int .i64 t]) (by simp [results, Tryd.results143, go_sem, e_r]) rfl ⟨rfl, V9⟩
end Go.Proofs.YtlmdckcohoddnaaDoor
namespace Go.Proofs.YtlmdckcohoddnaaDoor
open Go.RowKit
set_option maxHeartbeats 16000000 in
set_option maxRecDepth 100000 in
theorem ptOwn_any (a : Pl) (x : PlX) (w : World) (h : PlR w x a.shares a.keys a.heard) (hN : PlN a) :
    Calls Tryd.prog 90 #[.agg #[.int .i64 a.P, .int .i64 a.party, .int .i64 a.input, .int .i64 a.mask, .int .i64 a.delta, .slice x.sa x.sn x.sc, .slice x.ka x.kn x.kc, .int .i64 a.step, .slice x.ha x.hn x.hc, .int .i64 a.status, .int .i64 a.out]] w fun e w' => ∃ y F, e = .returned (.agg #[.int .i64 a.P, .int .i64 a.party, .int .i64 a.input, .int .i64 a.mask, .int .i64 a.delta, .slice y.sa y.sn y.sc, .slice y.ka y.kn y.kc, .int .i64 a.step, .slice y.ha y.hn y.hc, .int .i64 a.status, .int .i64 a.out]) ∧ PlO w' w.heap.size y a.shares a.keys a.heard F ∧ Below w.heap.size w w' := by
  obtain ⟨hS, hK, rs, hH, hD⟩ := h
  have hs5 : x.sn = 5 := by have := hS.len; have := hN.sl; omega
  have hk5 : x.kn = 5 := by have := hK.len; have := hN.kl; omega
  have hrl := hH.len
  have hh3 : x.hn ≤ 3 := by have := hN.hl; have := hN.stp; have : rs.length = a.heard.length := by rw [← hD, datas_len]
                            omega
  have hdl : a.heard.length = x.hn := by rw [← hD, datas_len]; exact hrl
  have HR := Lib.hid (fun (k : Nat) (hk : k < x.hn) => (show (rowAt rs k).2.2 = hAt a.heard k ∧ (rowAt rs k).2.2.length ≤ 4 by
    have e := hAt_rs hD k (by omega)
    exact ⟨e.symm, by rw [← e, (hN.hb k (by omega)).1]; exact (blen_bd k).2⟩))
  have HL := Lib.hid hdl
  clear hN hD hrl hdl
  obtain ⟨x_sa, x_sn, x_sc, x_ka, x_kn, x_kc, x_ha, x_hn, x_hc⟩ := x
  dsimp only at *
  subst hs5
  subst hk5
  go_enter Tryd.func90, Tryd.ntmps90
  go_upto_region 2 with fail
  refine Exists.elim (Blk.new_ w (b := w.heap.size) rfl 31 #[.int .i64 a.P, .int .i64 a.party, .int .i64 a.input, .int .i64 a.mask, .int .i64 a.delta, .slice x_sa 5 x_sc, .slice x_ka 5 x_kc, .int .i64 a.step, .slice x_ha x_hn x_hc, .int .i64 a.status, .int .i64 a.out]) (fun w1_a0' q => ?_)
  rw [q.1]; have B_a := q.2.1; have s_w1_a0' := q.2.2.1; have u_w1_a0' := q.2.2.2; clear q
  refine Exists.elim (Blk.new_ w1_a0' (b := w.heap.size + 1) s_w1_a0' 31 #[.int .i64 0, .int .i64 0, .int .i64 0, .int .i64 0, .int .i64 0, .slice none 0 0, .slice none 0 0, .int .i64 0, .slice none 0 0, .int .i64 0, .int .i64 0]) (fun w1_a1' q => ?_)
  rw [q.1]; have B_r := q.2.1; have s_w1_a1' := q.2.2.1; have u_w1_a1' := q.2.2.2; clear q
  refine Exists.elim (Blk.new_ w1_a1' (b := w.heap.size + 2) s_w1_a1' 31 #[.int .i64 a.P, .int .i64 a.party, .int .i64 a.input, .int .i64 a.mask, .int .i64 a.delta, .slice x_sa 5 x_sc, .slice x_ka 5 x_kc, .int .i64 a.step, .slice x_ha x_hn x_hc, .int .i64 a.status, .int .i64 a.out]) (fun w1' q => ?_)
  rw [q.1]; have B_b := q.2.1; have s_w1' := q.2.2.1; have u_w1' := q.2.2.2; clear q
  replace B_a := ((B_a.below u_w1_a1').below u_w1')
  replace B_r := (B_r.below u_w1')
  have U := (u_w1_a0'.trans ((u_w1_a1'.trans (u_w1'.mono u_w1_a1'.size)).mono u_w1_a0'.size))
  have S_w1' : w.heap.size + 3 ≤ w1'.heap.size := Nat.le_of_eq s_w1'.symm
  have V_w1' := (Below.refl w.heap.size w).trans (U.mono ((Below.refl w.heap.size w)).size)
  clear u_w1_a0' u_w1_a1' u_w1' s_w1_a0' s_w1_a1' s_w1' U
  rw [show w.heap.size + 1 + 1 = w.heap.size + 2 from rfl]
  have e_a_5 := B_a.a11_5
  have e5A : (w1'.alloc (.cells #[] 81)).cell? ⟨w.heap.size, 5, none⟩ = some (.slice x_sa 5 x_sc) := keepA _ e_a_5
  have hS2 := Flat.alloc (hS.below V_w1') (.cells #[] 81)
  go_wp2_with (at_builtin; refine wpList_appT rfl _ _ rfl w1'.heap.size _ 0 0 [] rfl (OwnC.nil0 _ _ _ _ _) _ 5 x_sc _ rfl hS2 (one_ints a.shares) (by omega) (by simp) ?_)
  intro b5 d5 w5 o5 u5 g5 m5
  replace o5 : OwnF 2 eTagged w5 w1'.heap.size b5 5 d5 a.shares := o5
  replace o5 := o5.lower (b' := w.heap.size + 3) S_w1'
  have u9 : Below w1'.heap.size w1' w5 := ((Below.refl _ _).alloc (Nat.le_refl _) _).trans u5
  clear u5 g5 m5 hS2 e5A
  clear e_a_5
  replace B_a := B_a.below u9
  replace B_r := B_r.below u9
  replace B_b := B_b.below u9
  have S_w5 := u9.size
  have V_w5 : Below w.heap.size w w5 := V_w1'.trans (u9.mono V_w1'.size)
  clear V_w1'
  clear u9
  have Q_o5 := Lib.hid o5.feet
  have e_b_5 := B_b.a11_5
  have f_b_5 := B_b.frozen 5
  have e_a_6 := B_a.a11_6
  go_wp2_with fail
  clear e_b_5 f_b_5 e_a_6
  have g_1 : Only [w.heap.size + 2] w5 (w5.setCell ⟨w.heap.size + 2, 5, none⟩ (.slice b5 5 d5)) := (Only.refl _ _).setCell _ _ (by simp)
  replace B_b := B_b.set_ 5 (.slice b5 5 d5)
  generalize w5.setCell ⟨w.heap.size + 2, 5, none⟩ (.slice b5 5 d5) = w2' at *
  have G := g_1
  clear g_1
  simp only [List.setIfInBounds_toArray, List.set_cons_zero, List.set_cons_succ] at B_b
  have V_w2' := (V_w5).trans (G.below (V_w5).size (fun q hq => by have := (V_w5).size; simp at hq; omega))
  replace B_a := B_a.only G (by first | (simp; done) | (simp; omega))
  replace B_r := B_r.only G (by first | (simp; done) | (simp; omega))
  replace o5 := o5.only G (fun q hq hq' => by have := Q_o5.out q hq; simp at hq'; omega)
  have sG0 := G.size
  clear G
  clear V_w5
  have S_w2' : w5.heap.size + 0 ≤ w2'.heap.size := by omega
  clear sG0
  have R5 := Lib.hid o5.feet
  refine (l1Own_any _ _ _ a.keys _ (hK.below V_w2') (by omega)).mono ?_
  rintro e w3' ⟨b6, d6, rfl, o6, u_w3'⟩
  replace B_a := B_a.below u_w3'
  replace B_r := B_r.below u_w3'
  replace B_b := B_b.below u_w3'
  replace o5 := o5.below u_w3'
  have S_w3' := u_w3'.size
  have V_w3' : Below w.heap.size w w3' := V_w2'.trans (u_w3'.mono V_w2'.size)
  clear V_w2'
  clear u_w3'
  have D56 : Disj (foot b5 d5) (foot b6 d6) := Disj.of_rng R5.out o6.feet (Or.inl (Nat.le_refl _))
  replace o6 := o6.lower (b' := w.heap.size + 3) (by have := S_w1'; have := S_w5; have := S_w2'; omega)
  have Q_o6 := Lib.hid o6.feet
  have e_b_6 := B_b.a11_6
  have f_b_6 := B_b.frozen 6
  have e_b_8 := B_b.a11_8
  have f_b_8 := B_b.frozen 8
  have e_a_8 := B_a.a11_8
  go_wp2
  clear e_b_6 f_b_6 e_b_8 f_b_8 e_a_8
  have g_1 : Only [w.heap.size + 2] w3' (w3'.setCell ⟨w.heap.size + 2, 6, none⟩ (.slice b6 5 d6)) := (Only.refl _ _).setCell _ _ (by simp)
  replace B_b := B_b.set_ 6 (.slice b6 5 d6)
  generalize w3'.setCell ⟨w.heap.size + 2, 6, none⟩ (.slice b6 5 d6) = w4_1' at *
  have G := g_1
  clear g_1
  have g_2 : Only [w.heap.size + 2] w4_1' (w4_1'.setCell ⟨w.heap.size + 2, 8, none⟩ (.slice none 0 0)) := (Only.refl _ _).setCell _ _ (by simp)
  replace B_b := B_b.set_ 8 (.slice none 0 0)
  generalize w4_1'.setCell ⟨w.heap.size + 2, 8, none⟩ (.slice none 0 0) = w4' at *
  replace G := G.trans g_2
  clear g_2
  simp only [List.setIfInBounds_toArray, List.set_cons_zero, List.set_cons_succ] at B_b
  have V_w4' := (V_w3').trans (G.below (V_w3').size (fun q hq => by have := (V_w3').size; simp at hq; omega))
  replace B_a := B_a.only G (by first | (simp; done) | (simp; omega))
  replace B_r := B_r.only G (by first | (simp; done) | (simp; omega))
  replace o5 := o5.only G (fun q hq hq' => by have := Q_o5.out q hq; simp at hq'; omega)
  replace o6 := o6.only G (fun q hq hq' => by have := Q_o6.out q hq; simp at hq'; omega)
  have sG0 := G.size
  clear G
  clear V_w3'
  have S_w4' : w3'.heap.size + 0 ≤ w4'.heap.size := by omega
  clear sG0
  have LL : w.heap.size + 3 ≤ w4'.heap.size := by have := S_w1'; have := S_w5; have := S_w2'; have := S_w3'; have := S_w4'; omega
  have R5 := Lib.hid o5.feet
  have R6 := Lib.hid o6.feet
  have LV := Lib.hid V_w4'
  go_loopw [20] (fun v wr => ∃ k : Nat, k ≤ x_hn ∧ v = .int .i64 k ∧ Below w.heap.size w wr ∧ Blk wr w.heap.size 31 #[.int .i64 a.P, .int .i64 a.party, .int .i64 a.input, .int .i64 a.mask, .int .i64 a.delta, .slice x_sa 5 x_sc, .slice x_ka 5 x_kc, .int .i64 a.step, .slice x_ha x_hn x_hc, .int .i64 a.status, .int .i64 a.out] ∧ Blk wr (w.heap.size + 1) 31 #[.int .i64 0, .int .i64 0, .int .i64 0, .int .i64 0, .int .i64 0, .slice none 0 0, .slice none 0 0, .int .i64 0, .slice none 0 0, .int .i64 0, .int .i64 0] ∧ OwnF 2 eTagged wr (w.heap.size + 3) b5 5 d5 a.shares ∧ Own wr (w.heap.size + 3) b6 5 d6 a.keys ∧ w4'.heap.size ≤ wr.heap.size ∧ ∃ c3 d3 rs', Blk wr (w.heap.size + 2) 31 #[.int .i64 a.P, .int .i64 a.party, .int .i64 a.input, .int .i64 a.mask, .int .i64 a.delta, .slice b5 5 d5, .slice b6 5 d6, .int .i64 a.step, .slice c3 k d3, .int .i64 a.status, .int .i64 a.out] ∧ OwnSS wr w4'.heap.size c3 k d3 rs' ∧ datas' rs' = a.heard.take k) (fun v _ => x_hn - (intOf v).toNat)
  case atStart => exact ⟨0, by omega, rfl, LV.out, B_a, B_r, o5, o6, Nat.le_refl _, none, 0, [], B_b, OwnSS.nil0 _ _ _, by simp [datas']⟩
  case round =>
    obtain ⟨k, hk, rfl, V_wr, B_a, B_r, o5, o6, SL, c3, d3, rs', B_b, own, hd3⟩ := hrel
    by_cases hlt : k < x_hn
    · obtain ⟨g, o, rfl, c0, inn⟩ := (hH.below V_wr).at k hlt
      obtain ⟨hr1, hr2⟩ := HR.out k hlt
      have hlt' : (k : Int) < (x_hn : Int) := by omega
      have HE : Hid (a.heard.take (k + 1) = a.heard.take k ++ [(rowAt rs k).2.2]) := Lib.hid (by
        rw [hr1, List.take_add_one]
        have : k < a.heard.length := by rw [HL.out]; exact hlt
        simp [hAt, List.getD, this])
      generalize rowAt rs k = r at *
      obtain ⟨ra, rc, rl⟩ := r
      dsimp only at *
      clear hr1
      have hd4 := Lib.hid hd3
      clear hd3
      have rl4 : rl.length ≤ 10000000 := by omega
      have e_b_8 := B_b.a11_8
      go_wp2
      refine wp_region_noPanic ?_
      refine wp_region_held_drew (S := (fun _ => True)) (by kernel_rfl) ?hS1 (fun hHeld => ?go1)
      case hS1 => trivial
      refine tk (i := 0) (oi := ⟨some 24, _, _, _, _, _⟩) (v := ?v0_2) hHeld rfl ?y0_2 ?r0_2
      case y0_2 => (intro w _; first | (go_simp; first | done | with_reducible rfl) | with_reducible rfl)
      (try simp only [pt_])
      refine tk (i := 2) (oi := ⟨some 26, _, _, _, _, _⟩) (v := ?v2_3) hHeld rfl ?y2_3 ?r2_3
      case y2_3 => (intro w _; first | (go_simp; first | done | with_reducible rfl) | with_reducible rfl)
      (try simp only [pt_])
      refine wpAnyH_ready (rs := [1, 3]) (by kernel_rfl) (by simp) ?_
      refine AllReadyH.cons (o := ⟨some 25, _, _, _, _, _⟩) rfl (fun K hK => ?_) ?_
      go_simp
      refine hK.out _ _ trivial (fun hHeld => ?_)
      clear hK K
      (try simp only [pt_])
      refine wpAnyH_ready (rs := [3]) (by kernel_rfl) (by simp) ?_
      refine AllReadyH.cons (o := ⟨some 27, _, _, _, _, _⟩) rfl (fun K hK => ?_) ?_
      go_simp
      refine (l1Own_any _ _ _ rl _ (inn.drew) rl4).mono ?_
      rintro e wz ⟨b9, d9, rfl, o9, u9⟩
      have B_b9 := Blk.below B_b.drew u9
      have h8 := B_b9.cell 8
      have h8A := (Blk.alloc B_b9 (.cells #[.slice b9 rl.length d9] 23)).cell 8
      focus (try go_wp2_with fail)
      refine hK.out _ _ trivial (fun hHeld => ?_)
      clear hK K
      (try simp only [pt_])
      refine wpAnyH_ready (rs := [4]) (by kernel_rfl) (by simp) ?_
      refine AllReadyH.cons (o := ⟨some 28, _, _, _, _, _⟩) rfl (fun K hK => ?_) ?_
      go_simp
      refine hK.out _ _ trivial (fun hHeld => ?_)
      clear hK K
      (try simp only [pt_])
      refine wpAnyH_ready (rs := [5]) (by kernel_rfl) (by simp) ?_
      refine AllReadyH.cons (o := ⟨some 29, _, _, _, _, _⟩) rfl (fun K hK => ?_) ?_
      have hdj : Disj (foot b9 d9) (feetSS c3 d3 rs') := Disj.of_rng o9.feet own.feet (Or.inr (Nat.le_refl _))
      have own2 := own.below ((Below.refl _ _).drew.trans u9)
      have o10 := o9.lower (b' := w4'.heap.size) SL
      have LIT := RowC.lit1 wz (rowV (b9, d9, rl)) 23
      have own3 := OwnSS.alloc own2 (.cells #[rowV (b9, d9, rl)] 23)
      have o11 := Own.alloc o10 (.cells #[rowV (b9, d9, rl)] 23)
      have OO : OwnC (wz.alloc (.cells #[rowV (b9, d9, rl)] 23)) w4'.heap.size c3 k d3 23 1 (rs'.map rowV) := own3.out
      have szz : w4'.heap.size ≤ (wz.alloc (.cells #[rowV (b9, d9, rl)] 23)).heap.size := by have := u9.size; simp at *; omega
      refine step_appSS (by rfl) _ _ (by rfl) w4'.heap.size c3 k d3 (rs'.map rowV) (by rfl) OO _ 1 1 [rowV (b9, d9, rl)] (by rfl) LIT (by simp [rowV, Value.oneCell']) (by omega) szz ?_
      intro a7 c7 w7 oc u7 g7 m7
      have Ng : w.heap.size + 2 ∉ foot c3 d3 := fun hq => by have := (own.feet _ (List.mem_append_left _ hq)).1; omega
      have B_b7 := Blk.only (Blk.alloc B_b9 (.cells #[rowV (b9, d9, rl)] 23)) (Only.of_grown g7) Ng
      have j8 := B_b7.cell 8
      have f8 := B_b7.frozen 8
      refine hK.out _ _ trivial (fun hHeld => ?_)
      clear hK K
      (try simp only [pt_])
      refine tk (i := 6) (oi := ⟨some 30, _, _, _, _, _⟩) (v := ?v6_4) hHeld rfl ?y6_4 ?r6_4
      case y6_4 => (intro w _; first | (go_simp; first | done | with_reducible rfl) | with_reducible rfl)
      (try simp only [pt_])
      refine wpAnyH_ready (rs := [7]) (by kernel_rfl) (by simp) ?_
      refine AllReadyH.cons (o := ⟨none, _, _, _, _, _⟩) rfl (fun K hK => ?_) ?_
      go_simp
      refine hK.out _ _ trivial (fun hHeld => ?_)
      clear hK K
      (try simp only [pt_])
      refine wpAnyH_done (by kernel_rfl) ?_ _
      refine NoPanic.normal ?_
      rotate_left 1
      exact AllReadyH.nil
      exact AllReadyH.nil
      exact AllReadyH.nil
      exact AllReadyH.nil
      refine AllReadyH.cons (o := ⟨some 27, _, _, _, _, _⟩) rfl (fun K hK => ?_) ?_
      go_simp
      refine (l1Own_any _ _ _ rl _ (inn.drew) rl4).mono ?_
      rintro e wz ⟨b9, d9, rfl, o9, u9⟩
      have B_b9 := Blk.below B_b.drew u9
      have h8 := B_b9.cell 8
      have h8A := (Blk.alloc B_b9 (.cells #[.slice b9 rl.length d9] 23)).cell 8
      focus (try go_wp2_with fail)
      refine hK.out _ _ trivial (fun hHeld => ?_)
      clear hK K
      (try simp only [pt_])
      refine wpAnyH_ready (rs := [1, 4]) (by kernel_rfl) (by simp) ?_
      refine AllReadyH.cons (o := ⟨some 25, _, _, _, _, _⟩) rfl (fun K hK => ?_) ?_
      go_simp
      refine hK.out _ _ trivial (fun hHeld => ?_)
      clear hK K
      (try simp only [pt_])
      refine wpAnyH_ready (rs := [4]) (by kernel_rfl) (by simp) ?_
      refine AllReadyH.cons (o := ⟨some 28, _, _, _, _, _⟩) rfl (fun K hK => ?_) ?_
      go_simp
      refine hK.out _ _ trivial (fun hHeld => ?_)
      clear hK K
      (try simp only [pt_])
      refine wpAnyH_ready (rs := [5]) (by kernel_rfl) (by simp) ?_
      refine AllReadyH.cons (o := ⟨some 29, _, _, _, _, _⟩) rfl (fun K hK => ?_) ?_
      have hdj : Disj (foot b9 d9) (feetSS c3 d3 rs') := Disj.of_rng o9.feet own.feet (Or.inr (Nat.le_refl _))
      have own2 := own.below ((Below.refl _ _).drew.trans u9)
      have o10 := o9.lower (b' := w4'.heap.size) SL
      have LIT := RowC.lit1 wz (rowV (b9, d9, rl)) 23
      have own3 := OwnSS.alloc own2 (.cells #[rowV (b9, d9, rl)] 23)
      have o11 := Own.alloc o10 (.cells #[rowV (b9, d9, rl)] 23)
      have OO : OwnC (wz.alloc (.cells #[rowV (b9, d9, rl)] 23)) w4'.heap.size c3 k d3 23 1 (rs'.map rowV) := own3.out
      have szz : w4'.heap.size ≤ (wz.alloc (.cells #[rowV (b9, d9, rl)] 23)).heap.size := by have := u9.size; simp at *; omega
      refine step_appSS (by rfl) _ _ (by rfl) w4'.heap.size c3 k d3 (rs'.map rowV) (by rfl) OO _ 1 1 [rowV (b9, d9, rl)] (by rfl) LIT (by simp [rowV, Value.oneCell']) (by omega) szz ?_
      intro a7 c7 w7 oc u7 g7 m7
      have Ng : w.heap.size + 2 ∉ foot c3 d3 := fun hq => by have := (own.feet _ (List.mem_append_left _ hq)).1; omega
      have B_b7 := Blk.only (Blk.alloc B_b9 (.cells #[rowV (b9, d9, rl)] 23)) (Only.of_grown g7) Ng
      have j8 := B_b7.cell 8
      have f8 := B_b7.frozen 8
      refine hK.out _ _ trivial (fun hHeld => ?_)
      clear hK K
      (try simp only [pt_])
      refine tk (i := 6) (oi := ⟨some 30, _, _, _, _, _⟩) (v := ?v6_5) hHeld rfl ?y6_5 ?r6_5
      case y6_5 => (intro w _; first | (go_simp; first | done | with_reducible rfl) | with_reducible rfl)
      (try simp only [pt_])
      refine wpAnyH_ready (rs := [7]) (by kernel_rfl) (by simp) ?_
      refine AllReadyH.cons (o := ⟨none, _, _, _, _, _⟩) rfl (fun K hK => ?_) ?_
      go_simp
      refine hK.out _ _ trivial (fun hHeld => ?_)
      clear hK K
      (try simp only [pt_])
      refine wpAnyH_done (by kernel_rfl) ?_ _
      refine NoPanic.normal ?_
      rotate_left 1
      exact AllReadyH.nil
      exact AllReadyH.nil
      exact AllReadyH.nil
      refine AllReadyH.cons (o := ⟨some 28, _, _, _, _, _⟩) rfl (fun K hK => ?_) ?_
      go_simp
      refine hK.out _ _ trivial (fun hHeld => ?_)
      clear hK K
      (try simp only [pt_])
      refine wpAnyH_ready (rs := [1]) (by kernel_rfl) (by simp) ?_
      refine AllReadyH.cons (o := ⟨some 25, _, _, _, _, _⟩) rfl (fun K hK => ?_) ?_
      go_simp
      refine hK.out _ _ trivial (fun hHeld => ?_)
      clear hK K
      (try simp only [pt_])
      refine wpAnyH_ready (rs := [5]) (by kernel_rfl) (by simp) ?_
      refine AllReadyH.cons (o := ⟨some 29, _, _, _, _, _⟩) rfl (fun K hK => ?_) ?_
      have hdj : Disj (foot b9 d9) (feetSS c3 d3 rs') := Disj.of_rng o9.feet own.feet (Or.inr (Nat.le_refl _))
      have own2 := own.below ((Below.refl _ _).drew.trans u9)
      have o10 := o9.lower (b' := w4'.heap.size) SL
      have LIT := RowC.lit1 wz (rowV (b9, d9, rl)) 23
      have own3 := OwnSS.alloc own2 (.cells #[rowV (b9, d9, rl)] 23)
      have o11 := Own.alloc o10 (.cells #[rowV (b9, d9, rl)] 23)
      have OO : OwnC (wz.alloc (.cells #[rowV (b9, d9, rl)] 23)) w4'.heap.size c3 k d3 23 1 (rs'.map rowV) := own3.out
      have szz : w4'.heap.size ≤ (wz.alloc (.cells #[rowV (b9, d9, rl)] 23)).heap.size := by have := u9.size; simp at *; omega
      refine step_appSS (by rfl) _ _ (by rfl) w4'.heap.size c3 k d3 (rs'.map rowV) (by rfl) OO _ 1 1 [rowV (b9, d9, rl)] (by rfl) LIT (by simp [rowV, Value.oneCell']) (by omega) szz ?_
      intro a7 c7 w7 oc u7 g7 m7
      have Ng : w.heap.size + 2 ∉ foot c3 d3 := fun hq => by have := (own.feet _ (List.mem_append_left _ hq)).1; omega
      have B_b7 := Blk.only (Blk.alloc B_b9 (.cells #[rowV (b9, d9, rl)] 23)) (Only.of_grown g7) Ng
      have j8 := B_b7.cell 8
      have f8 := B_b7.frozen 8
      refine hK.out _ _ trivial (fun hHeld => ?_)
      clear hK K
      (try simp only [pt_])
      refine tk (i := 6) (oi := ⟨some 30, _, _, _, _, _⟩) (v := ?v6_6) hHeld rfl ?y6_6 ?r6_6
      case y6_6 => (intro w _; first | (go_simp; first | done | with_reducible rfl) | with_reducible rfl)
      (try simp only [pt_])
      refine wpAnyH_ready (rs := [7]) (by kernel_rfl) (by simp) ?_
      refine AllReadyH.cons (o := ⟨none, _, _, _, _, _⟩) rfl (fun K hK => ?_) ?_
      go_simp
      refine hK.out _ _ trivial (fun hHeld => ?_)
      clear hK K
      (try simp only [pt_])
      refine wpAnyH_done (by kernel_rfl) ?_ _
      refine NoPanic.normal ?_
      rotate_left 1
      exact AllReadyH.nil
      exact AllReadyH.nil
      exact AllReadyH.nil
      exact AllReadyH.nil
      exact AllReadyH.nil
      all_goals
        have own4 := own3.push (r := (b9, d9, rl)) o11 hdj oc g7 m7
        have uA : Below wr.heap.size wr wz := (Below.refl _ _).drew.trans u9
        have QR := Lib.hid own.feet
        have hd5 := Lib.hid ((show datas' (rs' ++ [(b9, d9, rl)]) = a.heard.take (k + 1) by rw [HE.out, ← hd4.out]; simp [datas']))
        have SLz := SL
        clear own own2 o9 o10 o11 own3 oc u9 m7 hdj LIT OO szz B_b9 B_b7 h8 h8A j8 f8 c0 inn
        clear e_b_8
        replace B_a := B_a.below uA
        replace B_r := B_r.below uA
        replace B_b := B_b.below uA
        replace o5 := o5.below uA
        replace o6 := o6.below uA
        have S_wz := uA.size
        have V_wz : Below w.heap.size w wz := V_wr.trans (uA.mono V_wr.size)
        clear V_wr
        clear uA
        refine Exists.elim (Blk.new_ wz (b := wz.heap.size) rfl 23 #[.slice b9 rl.length d9]) (fun w5' q => ?_)
        (try rw [q.1] at g7); (try rw [q.1] at u7); (try rw [q.1]); have B_z := q.2.1; have s_w5' := q.2.2.1; have u_w5' := q.2.2.2; clear q
        replace B_a := B_a.below u_w5'
        replace B_r := B_r.below u_w5'
        replace B_b := B_b.below u_w5'
        replace o5 := o5.below u_w5'
        replace o6 := o6.below u_w5'
        have S_w5' : wz.heap.size + 1 ≤ w5'.heap.size := Nat.le_of_eq s_w5'.symm
        have V_w5' := V_wz.trans (u_w5'.mono (V_wz).size)
        clear u_w5' s_w5' V_wz
        clear B_z
        have oG := Only.of_grown g7
        have V_w7 : Below w.heap.size w w7 := V_w5'.trans (u7.mono (show w.heap.size ≤ w4'.heap.size by omega))
        have NN : ∀ q, q ∈ foot c3 d3 → w4'.heap.size ≤ q := fun q hq => (QR.out q (List.mem_append_left _ hq)).1
        replace B_a := Blk.only B_a oG (fun hq => by have := NN _ hq; omega)
        replace B_r := Blk.only B_r oG (fun hq => by have := NN _ hq; omega)
        replace B_b := Blk.only B_b oG (fun hq => by have := NN _ hq; omega)
        replace o5 := OwnF.only o5 oG (fun q hq hq' => by have := NN _ hq'; have := R5.out _ hq; omega)
        replace o6 := o6.only oG (fun q hq hq' => by have := NN _ hq'; have := R6.out _ hq; omega)
        have SLw := oG.size
        clear oG u7 g7 NN
        have Q_own4 := Lib.hid own4.feet
        have g_1 : Only [w.heap.size + 2] w7 (w7.setCell ⟨w.heap.size + 2, 8, none⟩ (.slice a7 (k + 1) c7)) := (Only.refl _ _).setCell _ _ (by simp)
        replace B_b := B_b.set_ 8 (.slice a7 (k + 1) c7)
        generalize w7.setCell ⟨w.heap.size + 2, 8, none⟩ (.slice a7 (k + 1) c7) = w6' at *
        have G := g_1
        clear g_1
        simp only [List.setIfInBounds_toArray, List.set_cons_zero, List.set_cons_succ] at B_b
        have V_w6' := (V_w7).trans (G.below (V_w7).size (fun q hq => by have := (V_w7).size; simp at hq; omega))
        replace B_a := B_a.only G (by first | (simp; done) | (simp; omega))
        replace B_r := B_r.only G (by first | (simp; done) | (simp; omega))
        replace o5 := o5.only G (fun q hq hq' => by have := Q_o5.out q hq; simp at hq'; omega)
        replace o6 := o6.only G (fun q hq hq' => by have := Q_o6.out q hq; simp at hq'; omega)
        replace own4 := own4.only G (fun q hq hq' => by have := Q_own4.out q hq; simp at hq'; omega)
        have sG0 := G.size
        clear G
        clear V_w7
        have S_w6' : w7.heap.size + 0 ≤ w6'.heap.size := by omega
        clear sG0
        go_wp2
        go_roundw
        case rel => exact ⟨k + 1, by omega, by go_num, V_w6', B_a, B_r, o5, o6, by omega, a7, c7, _, B_b, own4, hd5.out⟩
        case measure => simp [intOf]; omega
    · obtain rfl : x_hn = k := by omega
      have QQ := Lib.hid own.feet
      have hdd : datas' rs' = a.heard := by rw [hd3, ← HL.out, List.take_length]
      replace hdd := Lib.hid hdd
      have E1 : Disj (foot b5 d5) (feetSS c3 d3 rs') := Disj.of_rng R5.out own.feet (Or.inl (Nat.le_refl _))
      have E2 : Disj (foot b6 d6) (feetSS c3 d3 rs') := Disj.of_rng R6.out own.feet (Or.inl (Nat.le_refl _))
      replace own := own.lower (b' := w.heap.size + 3) LL
      have Q_own := Lib.hid own.feet
      clear hd3
      have e_b := B_b.all11
      have f_b := B_b.frz11
      have e_r := B_r.all11
      have f_r := B_r.frz11
      go_wp2
      clear e_b f_b e_r f_r
      refine Exists.elim (B_r.row11 (.int .i64 a.P) (.int .i64 a.party) (.int .i64 a.input) (.int .i64 a.mask) (.int .i64 a.delta) (.slice b5 5 d5) (.slice b6 5 d6) (.int .i64 a.step) (.slice c3 x_hn d3) (.int .i64 a.status) (.int .i64 a.out)) (fun w7' q => ?_)
      rw [q.1]; replace B_r := q.2.1; have G := q.2.2; clear q
      have V_w7' := (V_wr).trans (G.below (V_wr).size (fun q hq => by have := (V_wr).size; simp at hq; omega))
      replace B_a := B_a.only G (by first | (simp; done) | (simp; omega))
      replace B_b := B_b.only G (by first | (simp; done) | (simp; omega))
      replace o5 := o5.only G (fun q hq hq' => by have := Q_o5.out q hq; simp at hq'; omega)
      replace o6 := o6.only G (fun q hq hq' => by have := Q_o6.out q hq; simp at hq'; omega)
      replace own := own.only G (fun q hq hq' => by have := Q_own.out q hq; simp at hq'; omega)
      have sG0 := G.size
      clear G
      clear V_wr
      have S_w7' : wr.heap.size + 0 ≤ w7'.heap.size := by omega
      clear sG0
      have e_r := B_r.all11
      exact bodyPost_ret (v := .agg #[.int .i64 a.P, .int .i64 a.party, .int .i64 a.input, .int .i64 a.mask, .int .i64 a.delta, .slice b5 5 d5, .slice b6 5 d6, .int .i64 a.step, .slice c3 x_hn d3, .int .i64 a.status, .int .i64 a.out]) (by simp [results, Tryd.results90, go_sem, e_r]) rfl ⟨⟨b5, 5, d5, b6, 5, d6, c3, x_hn, d3⟩, _, rfl, ⟨OwnF.lower o5 (by omega), o6.lower (by omega), rs', own.lower (by omega), hdd.out, D56, E1, E2, rfl⟩, V_w7'⟩
end Go.Proofs.YtlmdckcohoddnaaDoor
