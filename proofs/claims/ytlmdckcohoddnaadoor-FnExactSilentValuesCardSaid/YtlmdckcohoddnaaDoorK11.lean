/- Lemmas and walks that the claim's proof rests on, part 11. -/
import Derived.Deep.DeepCutAuto
import Derived.Test.YtlmdckcohoddnaaDoorK1
import Derived.Test.YtlmdckcohoddnaaDoorK2
import Derived.Test.YtlmdckcohoddnaaDoorK5
import Derived.Test.YtlmdckcohoddnaaDoorK6
namespace Go.Proofs.YtlmdckcohoddnaaDoor
open Go.RowKit
set_option maxHeartbeats 4000000 in
set_option maxRecDepth 100000 in
theorem CloneT_any (a : Option Addr) (n c : Nat) (l : List Int) (w : World) (h : Flat 2 w a n c l) (hs : n ≤ 100000) :
    Calls Tryd.prog 124 #[.slice a n c] w fun e w' => ∃ a' c', e = .returned (.slice a' n c') ∧ OwnF 2 eTagged w' w.heap.size a' n c' l ∧ Below w.heap.size w w' := by
  have hnil := fun (W : World) => Lib.run_eql_slice_nil W 29 81 a n c 0 0 Tryd.underlying29
  have hn := h.le
  cases a with
  | none =>
    have hc : c = 0 := h.2.2.2.1 rfl
    have hn0 : n = 0 := by have := h.2.1; omega
    subst hc; subst hn0
    have hl : l = [] := List.eq_nil_of_length_eq_zero (by have := h.len; omega)
    subst hl
    go_enter Tryd.func124, Tryd.ntmps124
    go_wp2
    go_ret
    exact ⟨_, _, rfl, OwnC.nil0 _ _ _ _ _, Below.refl _ _⟩
  | some y =>
    go_enter Tryd.func124, Tryd.ntmps124
    go_wp2_with (at_builtin; refine wpList_appT rfl _ _ rfl w.heap.size _ 0 0 [] rfl (OwnC.nil0 _ _ _ _ _) _ n c _ rfl (Flat.alloc h _) (one_ints l) (by omega) (by simp) ?_)
    intro a2 c2 w1 own hb _ _
    try simp only [Nat.zero_add, List.nil_append] at own
    have hb1 := ((Below.refl _ w).alloc (Nat.le_refl _) _).trans hb
    clear hb
    go_wp2
    go_ret
    exact ⟨_, _, ret_slice (by omega), own, hb1⟩
set_option maxHeartbeats 16000000 in
set_option maxRecDepth 100000 in
theorem copyPlayer_any (a : Pl) (x : PlX) (w : World) (h : PlR w x a.shares a.keys a.heard) (hN : PlN a) :
    Calls Tryd.prog 95 #[.agg #[.int .i64 a.P, .int .i64 a.party, .int .i64 a.input, .int .i64 a.mask, .int .i64 a.delta, .slice x.sa x.sn x.sc, .slice x.ka x.kn x.kc, .int .i64 a.step, .slice x.ha x.hn x.hc, .int .i64 a.status, .int .i64 a.out]] w fun e w' => ∃ y F, e = .returned (.agg #[.int .i64 a.P, .int .i64 a.party, .int .i64 a.input, .int .i64 a.mask, .int .i64 a.delta, .slice y.sa y.sn y.sc, .slice y.ka y.kn y.kc, .int .i64 a.step, .slice y.ha y.hn y.hc, .int .i64 a.status, .int .i64 a.out]) ∧ PlO w' w.heap.size y a.shares a.keys a.heard F ∧ Below w.heap.size w w' := by
  obtain ⟨hS, hK, rs, hH, hD⟩ := h
  have hs5 : x.sn = 5 := by have := hS.len; have := hN.sl; omega
  have hk5 : x.kn = 5 := by have := hK.len; have := hN.kl; omega
  have hrl := hH.len
  have hh3 : x.hn ≤ 3 := by have := hN.hl; have := hN.stp; have : rs.length = a.heard.length := by rw [← hD, datas_len]
                            omega
  have hdl : a.heard.length = x.hn := by rw [← hD, datas_len]; exact hrl
  have HR := Lib.hid (fun (k : Nat) (hk : k < x.hn) => (show (rowAt rs k).2.2 = hAt a.heard k ∧ (rowAt rs k).2.2.length ≤ 4 by
    have e := hAt_rs hD k (by omega)
    exact ⟨e.symm, by rw [← e, (hN.hb k (by omega)).1]; exact (blen_bd k).2⟩))
  have HL := Lib.hid hdl
  have CT := Lib.hid (fun (W : World) (h2 : Flat 2 W x.sa x.sn x.sc a.shares) => CloneT_any x.sa x.sn x.sc a.shares W h2 (by omega))
  have CK := Lib.hid (fun (W : World) (h2 : Ints W x.ka x.kn x.kc a.keys) => Clone_any x.ka x.kn x.kc a.keys W h2 (by omega))
  clear hN hD hrl hdl
  obtain ⟨x_sa, x_sn, x_sc, x_ka, x_kn, x_kc, x_ha, x_hn, x_hc⟩ := x
  dsimp only at *
  subst hs5
  subst hk5
  go_enter Tryd.func95, Tryd.ntmps95
  go_upto_region 1 with fail
  refine Exists.elim (Blk.new_ w (b := w.heap.size) rfl 31 #[.int .i64 a.P, .int .i64 a.party, .int .i64 a.input, .int .i64 a.mask, .int .i64 a.delta, .slice x_sa 5 x_sc, .slice x_ka 5 x_kc, .int .i64 a.step, .slice x_ha x_hn x_hc, .int .i64 a.status, .int .i64 a.out]) (fun w1_a0' q => ?_)
  rw [q.1]; have B_a := q.2.1; have s_w1_a0' := q.2.2.1; have u_w1_a0' := q.2.2.2; clear q
  refine Exists.elim (Blk.new_ w1_a0' (b := w.heap.size + 1) s_w1_a0' 31 #[.int .i64 0, .int .i64 0, .int .i64 0, .int .i64 0, .int .i64 0, .slice none 0 0, .slice none 0 0, .int .i64 0, .slice none 0 0, .int .i64 0, .int .i64 0]) (fun w1' q => ?_)
  rw [q.1]; have B_r := q.2.1; have s_w1' := q.2.2.1; have u_w1' := q.2.2.2; clear q
  replace B_a := (B_a.below u_w1')
  have U := (u_w1_a0'.trans (u_w1'.mono u_w1_a0'.size))
  have S_w1' : w.heap.size + 2 ≤ w1'.heap.size := Nat.le_of_eq s_w1'.symm
  have V_w1' := (Below.refl w.heap.size w).trans (U.mono ((Below.refl w.heap.size w)).size)
  clear u_w1_a0' u_w1' s_w1_a0' s_w1' U
  have e_a_0 := B_a.a11_0
  have e_a_1 := B_a.a11_1
  have e_a_2 := B_a.a11_2
  have e_a_3 := B_a.a11_3
  have e_a_4 := B_a.a11_4
  have e_a_5 := B_a.a11_5
  have e_a_6 := B_a.a11_6
  have e_a_7 := B_a.a11_7
  have e_a_8 := B_a.a11_8
  have e_a_9 := B_a.a11_9
  have e_a_10 := B_a.a11_10
  have hS1 := hS.below V_w1'.drew
  have hK1 := hK.below V_w1'.drew
  have B1 := B_a.drew
  go_region_with (first
    | (go_at_call 124; refine (CT.out _ hS1).mono ?_; rintro e wa ⟨b5, d5, rfl, o5, u5⟩; have B2 := Blk.below B1 u5; have g6 := B2.cell 6; have hK2 := hK1.below u5)
    | (go_at_call 118; refine (CK.out _ hK2).mono ?_; rintro e wb ⟨b6, d6, rfl, o6, u6⟩; have B3 := Blk.below B2 u6; have h5 := B3.cell 5; have h6 := B3.cell 6; have k5 := B3.frozen 5; have k6 := B3.frozen 6))
  all_goals
    have u9 : Below w1'.heap.size w1' wb := (Below.refl _ _).drew.trans (u5.trans (u6.mono u5.size))
    have D56 : Disj (foot b5 d5) (foot b6 d6) := Disj.of_rng o5.feet o6.feet (Or.inl (Nat.le_refl _))
    replace o5 := (OwnF.below o5 u6).lower (b' := w.heap.size + 2) S_w1'
    replace o6 := o6.lower (b' := w.heap.size + 2) (Nat.le_trans S_w1' u5.size)
    clear u5 u6 B1 B2 B3 g6 hK1 hK2 hS1 h5 h6 k5 k6
    clear e_a_0 e_a_1 e_a_2 e_a_3 e_a_4 e_a_5 e_a_6 e_a_7 e_a_8 e_a_9 e_a_10
    replace B_a := B_a.below u9
    replace B_r := B_r.below u9
    have S_wb := u9.size
    have V_wb : Below w.heap.size w wb := V_w1'.trans (u9.mono V_w1'.size)
    clear V_w1'
    clear u9
    have Q_o5 := Lib.hid o5.feet
    have Q_o6 := Lib.hid o6.feet
    have g_1 : Only [w.heap.size] wb (wb.setCell ⟨w.heap.size, 5, none⟩ (.slice b5 5 d5)) := (Only.refl _ _).setCell _ _ (by simp)
    replace B_a := B_a.set_ 5 (.slice b5 5 d5)
    generalize wb.setCell ⟨w.heap.size, 5, none⟩ (.slice b5 5 d5) = w2_1' at *
    have G := g_1
    clear g_1
    have g_2 : Only [w.heap.size] w2_1' (w2_1'.setCell ⟨w.heap.size, 6, none⟩ (.slice b6 5 d6)) := (Only.refl _ _).setCell _ _ (by simp)
    replace B_a := B_a.set_ 6 (.slice b6 5 d6)
    generalize w2_1'.setCell ⟨w.heap.size, 6, none⟩ (.slice b6 5 d6) = w2' at *
    replace G := G.trans g_2
    clear g_2
    simp only [List.setIfInBounds_toArray, List.set_cons_zero, List.set_cons_succ] at B_a
    have V_w2' := (V_wb).trans (G.below (V_wb).size (fun q hq => by have := (V_wb).size; simp at hq; omega))
    replace B_r := B_r.only G (by first | (simp; done) | (simp; omega))
    replace o5 := o5.only G (fun q hq hq' => by have := Q_o5.out q hq; simp at hq'; omega)
    replace o6 := o6.only G (fun q hq hq' => by have := Q_o6.out q hq; simp at hq'; omega)
    have sG0 := G.size
    clear G
    clear V_wb
    have S_w2' : wb.heap.size + 0 ≤ w2'.heap.size := by omega
    clear sG0
    have e_a_0 := B_a.a11_0
    have e_a_1 := B_a.a11_1
    have e_a_2 := B_a.a11_2
    have e_a_3 := B_a.a11_3
    have e_a_4 := B_a.a11_4
    have e_a_5 := B_a.a11_5
    have e_a_6 := B_a.a11_6
    have e_a_7 := B_a.a11_7
    have e_a_8 := B_a.a11_8
    have e_a_9 := B_a.a11_9
    have e_a_10 := B_a.a11_10
    have e8A : (w2'.alloc (.cells #[] 23)).cell? ⟨w.heap.size, 8, none⟩ = some (.slice x_ha x_hn x_hc) := keepA _ e_a_8
    go_wp2
    clear e_a_0 e_a_1 e_a_2 e_a_3 e_a_4 e_a_5 e_a_6 e_a_7 e_a_8 e_a_9 e_a_10
    clear e8A
    refine Exists.elim (Blk.new_ w2' (b := w2'.heap.size) rfl 23 #[]) (fun w3' q => ?_)
    rw [q.1]; have B_z := q.2.1; have s_w3' := q.2.2.1; have u_w3' := q.2.2.2; clear q
    replace B_a := B_a.below u_w3'
    replace B_r := B_r.below u_w3'
    replace o5 := o5.below u_w3'
    replace o6 := o6.below u_w3'
    have S_w3' : w2'.heap.size + 1 ≤ w3'.heap.size := Nat.le_of_eq s_w3'.symm
    have V_w3' := V_w2'.trans (u_w3'.mono (V_w2').size)
    clear u_w3' s_w3' V_w2'
    clear B_z
    have VB := V_w3'
    have SB := V_w3'.size
    have SB2 : w.heap.size + 2 ≤ w3'.heap.size := by have := S_w1'; have := S_wb; have := S_w2'; have := S_w3'; omega
    have R5 := Lib.hid o5.feet
    have R6 := Lib.hid o6.feet
    go_loopw [3, 18] (fun v u wr => ∃ k : Nat, k ≤ x_hn ∧ u = .int .i64 k ∧ Below w3'.heap.size w3' wr ∧ ∃ c3 d3 rs', v = .slice c3 k d3 ∧ OwnSS wr w3'.heap.size c3 k d3 rs' ∧ datas' rs' = a.heard.take k) (fun _ u _ => x_hn - (intOf u).toNat)
    case atStart => exact ⟨0, by omega, rfl, Below.refl _ _, _, _, [], rfl, OwnSS.nil0 _ _ _, by simp [datas']⟩
    case round =>
      obtain ⟨k, hk, rfl, hbel, c3, d3, rs', rfl, own, hd3⟩ := hrel
      have B_a := B_a.below hbel
      have B_r := B_r.below hbel
      have o5 := o5.below hbel
      have o6 := o6.below hbel
      have V_wr := V_w3'.trans (hbel.mono V_w3'.size)
      have S_wr := hbel.size
      by_cases hlt : k < x_hn
      · obtain ⟨g, o, rfl, c0, inn⟩ := (hH.below V_wr).at k hlt
        obtain ⟨hr1, hr2⟩ := HR.out k hlt
        have hlt' : (k : Int) < (x_hn : Int) := by omega
        have HE : Hid (a.heard.take (k + 1) = a.heard.take k ++ [(rowAt rs k).2.2]) := Lib.hid (by
          rw [hr1, List.take_add_one]
          have : k < a.heard.length := by rw [HL.out]; exact hlt
          simp [hAt, List.getD, this])
        generalize rowAt rs k = r at *
        obtain ⟨ra, rc, rl⟩ := r
        dsimp only at *
        clear hr1
        have hd4 := Lib.hid hd3
        clear hd3
        go_wp2_with fail
        refine (Clone_any _ _ _ rl _ inn (by omega)).mono ?_; rintro e wz ⟨b9, d9, rfl, o9, u9⟩
        have own2 := own.below u9
        have hb9 := hbel.trans (u9.mono hbel.size)
        have hdj : Disj (foot b9 d9) (feetSS c3 d3 rs') := Disj.of_rng o9.feet own.feet (Or.inr (Nat.le_refl _))
        have o10 := o9.lower hbel.size
        have LIT := RowC.lit1 wz (rowV (b9, d9, rl)) 23
        have own3 := OwnSS.alloc own2 (.cells #[rowV (b9, d9, rl)] 23)
        have o11 := Own.alloc o10 (.cells #[rowV (b9, d9, rl)] 23)
        have hbA := hb9.alloc hb9.size (.cells #[rowV (b9, d9, rl)] 23)
        have hszA := hbA.size
        have OO : OwnC (wz.alloc (.cells #[rowV (b9, d9, rl)] 23)) w3'.heap.size c3 k d3 23 1 (rs'.map rowV) := own3.out
        clear own own2 hb9 o9 o10 u9 c0 inn
        go_wp2_with (at_builtin; go_loud (refine wpList_appSS rfl _ _ rfl w3'.heap.size c3 k d3 (rs'.map rowV) rfl OO _ 1 1 [rowV (b9, d9, rl)] rfl LIT (by simp [rowV, Value.oneCell']) (by omega) hszA ?_))
        intro a7 c7 w7 oc u7 g7 m7
        have own4 := own3.push (r := (b9, d9, rl)) o11 hdj oc g7 m7
        have hb7 := hbA.trans u7
        have hd5 := Lib.hid ((show datas' (rs' ++ [(b9, d9, rl)]) = a.heard.take (k + 1) by rw [HE.out, ← hd4.out]; simp [datas']))
        clear own3 o11 oc u7 g7 m7 hbA hdj LIT OO hszA
        go_wp2
        go_roundw
        case rel => exact ⟨k + 1, by omega, by go_num, hb7, a7, c7, _, rfl, own4, hd5.out⟩
        case measure => simp [intOf]; omega
      · obtain rfl : x_hn = k := by omega
        have QQ := Lib.hid own.feet
        have hdd : datas' rs' = a.heard := by rw [hd3, ← HL.out, List.take_length]
        replace hdd := Lib.hid hdd
        have E1 : Disj (foot b5 d5) (feetSS c3 d3 rs') := Disj.of_rng R5.out own.feet (Or.inl (Nat.le_refl _))
        have E2 : Disj (foot b6 d6) (feetSS c3 d3 rs') := Disj.of_rng R6.out own.feet (Or.inl (Nat.le_refl _))
        replace own := own.lower (b' := w.heap.size + 2) SB2
        have Q_own := Lib.hid own.feet
        clear hd3 hbel
        have e_a_0 := B_a.a11_0
        have f_a_0 := B_a.frozen 0
        have e_a_1 := B_a.a11_1
        have f_a_1 := B_a.frozen 1
        have e_a_2 := B_a.a11_2
        have f_a_2 := B_a.frozen 2
        have e_a_3 := B_a.a11_3
        have f_a_3 := B_a.frozen 3
        have e_a_4 := B_a.a11_4
        have f_a_4 := B_a.frozen 4
        have e_a_5 := B_a.a11_5
        have f_a_5 := B_a.frozen 5
        have e_a_6 := B_a.a11_6
        have f_a_6 := B_a.frozen 6
        have e_a_7 := B_a.a11_7
        have f_a_7 := B_a.frozen 7
        have e_a_8 := B_a.a11_8
        have f_a_8 := B_a.frozen 8
        have e_a_9 := B_a.a11_9
        have f_a_9 := B_a.frozen 9
        have e_a_10 := B_a.a11_10
        have f_a_10 := B_a.frozen 10
        have e_r := B_r.all11
        have f_r := B_r.frz11
        go_wp2
        clear e_a_0 f_a_0 e_a_1 f_a_1 e_a_2 f_a_2 e_a_3 f_a_3 e_a_4 f_a_4 e_a_5 f_a_5 e_a_6 f_a_6 e_a_7 f_a_7 e_a_8 f_a_8 e_a_9 f_a_9 e_a_10 f_a_10 e_r f_r
        have g_1 : Only [w.heap.size] wr (wr.setCell ⟨w.heap.size, 8, none⟩ (.slice c3 x_hn d3)) := (Only.refl _ _).setCell _ _ (by simp)
        replace B_a := B_a.set_ 8 (.slice c3 x_hn d3)
        generalize wr.setCell ⟨w.heap.size, 8, none⟩ (.slice c3 x_hn d3) = w4_1' at *
        have G := g_1
        clear g_1
        simp only [List.setIfInBounds_toArray, List.set_cons_zero, List.set_cons_succ] at B_a
        have V_w4'_0 := (V_wr).trans (G.below (V_wr).size (fun q hq => by have := (V_wr).size; simp at hq; omega))
        replace B_r := B_r.only G (by first | (simp; done) | (simp; omega))
        replace o5 := o5.only G (fun q hq hq' => by have := Q_o5.out q hq; simp at hq'; omega)
        replace o6 := o6.only G (fun q hq hq' => by have := Q_o6.out q hq; simp at hq'; omega)
        replace own := own.only G (fun q hq hq' => by have := Q_own.out q hq; simp at hq'; omega)
        have sG0 := G.size
        clear G
        clear V_wr
        refine Exists.elim (B_r.row11 (.int .i64 a.P) (.int .i64 a.party) (.int .i64 a.input) (.int .i64 a.mask) (.int .i64 a.delta) (.slice b5 5 d5) (.slice b6 5 d6) (.int .i64 a.step) (.slice c3 x_hn d3) (.int .i64 a.status) (.int .i64 a.out)) (fun w4' q => ?_)
        rw [q.1]; replace B_r := q.2.1; have G := q.2.2; clear q
        have V_w4' := (V_w4'_0).trans (G.below (V_w4'_0).size (fun q hq => by have := (V_w4'_0).size; simp at hq; omega))
        replace B_a := B_a.only G (by first | (simp; done) | (simp; omega))
        replace o5 := o5.only G (fun q hq hq' => by have := Q_o5.out q hq; simp at hq'; omega)
        replace o6 := o6.only G (fun q hq hq' => by have := Q_o6.out q hq; simp at hq'; omega)
        replace own := own.only G (fun q hq hq' => by have := Q_own.out q hq; simp at hq'; omega)
        have sG1 := G.size
        clear G
        clear V_w4'_0
        have S_w4' : wr.heap.size + 0 ≤ w4'.heap.size := by omega
        clear sG0 sG1
        have e_r := B_r.all11
        exact bodyPost_ret (v := .agg #[.int .i64 a.P, .int .i64 a.party, .int .i64 a.input, .int .i64 a.mask, .int .i64 a.delta, .slice b5 5 d5, .slice b6 5 d6, .int .i64 a.step, .slice c3 x_hn d3, .int .i64 a.status, .int .i64 a.out]) (by simp [results, Tryd.results95, go_sem, e_r]) rfl ⟨⟨b5, 5, d5, b6, 5, d6, c3, x_hn, d3⟩, _, rfl, ⟨OwnF.lower o5 (by omega), o6.lower (by omega), rs', own.lower (by omega), hdd.out, D56, E1, E2, rfl⟩, V_w4'⟩
end Go.Proofs.YtlmdckcohoddnaaDoor
namespace Go.Proofs.YtlmdckcohoddnaaDoor
open Go.RowKit
set_option maxHeartbeats 16000000 in
set_option maxRecDepth 100000 in
theorem ptOwn_any (a : Pl) (x : PlX) (w : World) (h : PlR w x a.shares a.keys a.heard) (hN : PlN a) :
    Calls Tryd.prog 90 #[.agg #[.int .i64 a.P, .int .i64 a.party, .int .i64 a.input, .int .i64 a.mask, .int .i64 a.delta, .slice x.sa x.sn x.sc, .slice x.ka x.kn x.kc, .int .i64 a.step, .slice x.ha x.hn x.hc, .int .i64 a.status, .int .i64 a.out]] w fun e w' => ∃ y F, e = .returned (.agg #[.int .i64 a.P, .int .i64 a.party, .int .i64 a.input, .int .i64 a.mask, .int .i64 a.delta, .slice y.sa y.sn y.sc, .slice y.ka y.kn y.kc, .int .i64 a.step, .slice y.ha y.hn y.hc, .int .i64 a.status, .int .i64 a.out]) ∧ PlO w' w.heap.size y a.shares a.keys a.heard F ∧ Below w.heap.size w w' := by
  obtain ⟨hS, hK, rs, hH, hD⟩ := h
  have hs5 : x.sn = 5 := by have := hS.len; have := hN.sl; omega
  have hk5 : x.kn = 5 := by have := hK.len; have := hN.kl; omega
  have hrl := hH.len
  have hh3 : x.hn ≤ 3 := by have := hN.hl; have := hN.stp; have : rs.length = a.heard.length := by rw [← hD, datas_len]
                            omega
  have hdl : a.heard.length = x.hn := by rw [← hD, datas_len]; exact hrl
  have HR := Lib.hid (fun (k : Nat) (hk : k < x.hn) => (show (rowAt rs k).2.2 = hAt a.heard k ∧ (rowAt rs k).2.2.length ≤ 4 by
    have e := hAt_rs hD k (by omega)
    exact ⟨e.symm, by rw [← e, (hN.hb k (by omega)).1]; exact (blen_bd k).2⟩))
  have HL := Lib.hid hdl
  clear hN hD hrl hdl
  obtain ⟨x_sa, x_sn, x_sc, x_ka, x_kn, x_kc, x_ha, x_hn, x_hc⟩ := x
  dsimp only at *
  subst hs5
  subst hk5
  go_enter Tryd.func90, Tryd.ntmps90
  go_upto_region 2 with fail
  refine Exists.elim (Blk.new_ w (b := w.heap.size) rfl 31 #[.int .i64 a.P, .int .i64 a.party, .int .i64 a.input, .int .i64 a.mask, .int .i64 a.delta, .slice x_sa 5 x_sc, .slice x_ka 5 x_kc, .int .i64 a.step, .slice x_ha x_hn x_hc, .int .i64 a.status, .int .i64 a.out]) (fun w1_a0' q => ?_)
  rw [q.1]; have B_a := q.2.1; have s_w1_a0' := q.2.2.1; have u_w1_a0' := q.2.2.2; clear q
  refine Exists.elim (Blk.new_ w1_a0' (b := w.heap.size + 1) s_w1_a0' 31 #[.int .i64 0, .int .i64 0, .int .i64 0, .int .i64 0, .int .i64 0, .slice none 0 0, .slice none 0 0, .int .i64 0, .slice none 0 0, .int .i64 0, .int .i64 0]) (fun w1_a1' q => ?_)
  rw [q.1]; have B_r := q.2.1; have s_w1_a1' := q.2.2.1; have u_w1_a1' := q.2.2.2; clear q
  refine Exists.elim (Blk.new_ w1_a1' (b := w.heap.size + 2) s_w1_a1' 31 #[.int .i64 a.P, .int .i64 a.party, .int .i64 a.input, .int .i64 a.mask, .int .i64 a.delta, .slice x_sa 5 x_sc, .slice x_ka 5 x_kc, .int .i64 a.step, .slice x_ha x_hn x_hc, .int .i64 a.status, .int .i64 a.out]) (fun w1' q => ?_)
  rw [q.1]; have B_b := q.2.1; have s_w1' := q.2.2.1; have u_w1' := q.2.2.2; clear q
  replace B_a := ((B_a.below u_w1_a1').below u_w1')
  replace B_r := (B_r.below u_w1')
  have U := (u_w1_a0'.trans ((u_w1_a1'.trans (u_w1'.mono u_w1_a1'.size)).mono u_w1_a0'.size))
  have S_w1' : w.heap.size + 3 ≤ w1'.heap.size := Nat.le_of_eq s_w1'.symm
  have V_w1' := (Below.refl w.heap.size w).trans (U.mono ((Below.refl w.heap.size w)).size)
  clear u_w1_a0' u_w1_a1' u_w1' s_w1_a0' s_w1_a1' s_w1' U
  rw [show w.heap.size + 1 + 1 = w.heap.size + 2 from rfl]
  have e_a_5 := B_a.a11_5
  have e5A : (w1'.alloc (.cells #[] 81)).cell? ⟨w.heap.size, 5, none⟩ = some (.slice x_sa 5 x_sc) := keepA _ e_a_5
  have hS2 := Flat.alloc (hS.below V_w1') (.cells #[] 81)
  go_wp2_with (at_builtin; refine wpList_appT rfl _ _ rfl w1'.heap.size _ 0 0 [] rfl (OwnC.nil0 _ _ _ _ _) _ 5 x_sc _ rfl hS2 (one_ints a.shares) (by omega) (by simp) ?_)
  intro b5 d5 w5 o5 u5 g5 m5
  replace o5 : OwnF 2 eTagged w5 w1'.heap.size b5 5 d5 a.shares := o5
  replace o5 := o5.lower (b' := w.heap.size + 3) S_w1'
  have u9 : Below w1'.heap.size w1' w5 := ((Below.refl _ _).alloc (Nat.le_refl _) _).trans u5
  clear u5 g5 m5 hS2 e5A
  clear e_a_5
  replace B_a := B_a.below u9
  replace B_r := B_r.below u9
  replace B_b := B_b.below u9
  have S_w5 := u9.size
  have V_w5 : Below w.heap.size w w5 := V_w1'.trans (u9.mono V_w1'.size)
  clear V_w1'
  clear u9
  have Q_o5 := Lib.hid o5.feet
  have e_b_5 := B_b.a11_5
  have f_b_5 := B_b.frozen 5
  have e_a_6 := B_a.a11_6
  go_wp2_with fail
  clear e_b_5 f_b_5 e_a_6
  have g_1 : Only [w.heap.size + 2] w5 (w5.setCell ⟨w.heap.size + 2, 5, none⟩ (.slice b5 5 d5)) := (Only.refl _ _).setCell _ _ (by simp)
  replace B_b := B_b.set_ 5 (.slice b5 5 d5)
  generalize w5.setCell ⟨w.heap.size + 2, 5, none⟩ (.slice b5 5 d5) = w2' at *
  have G := g_1
  clear g_1
  simp only [List.setIfInBounds_toArray, List.set_cons_zero, List.set_cons_succ] at B_b
  have V_w2' := (V_w5).trans (G.below (V_w5).size (fun q hq => by have := (V_w5).size; simp at hq; omega))
  replace B_a := B_a.only G (by first | (simp; done) | (simp; omega))
  replace B_r := B_r.only G (by first | (simp; done) | (simp; omega))
  replace o5 := o5.only G (fun q hq hq' => by have := Q_o5.out q hq; simp at hq'; omega)
  have sG0 := G.size
  clear G
  clear V_w5
  have S_w2' : w5.heap.size + 0 ≤ w2'.heap.size := by omega
  clear sG0
  have R5 := Lib.hid o5.feet
  refine (l1Own_any _ _ _ a.keys _ (hK.below V_w2') (by omega)).mono ?_
  rintro e w3' ⟨b6, d6, rfl, o6, u_w3'⟩
  replace B_a := B_a.below u_w3'
  replace B_r := B_r.below u_w3'
  replace B_b := B_b.below u_w3'
  replace o5 := o5.below u_w3'
  have S_w3' := u_w3'.size
  have V_w3' : Below w.heap.size w w3' := V_w2'.trans (u_w3'.mono V_w2'.size)
  clear V_w2'
  clear u_w3'
  have D56 : Disj (foot b5 d5) (foot b6 d6) := Disj.of_rng R5.out o6.feet (Or.inl (Nat.le_refl _))
  replace o6 := o6.lower (b' := w.heap.size + 3) (by have := S_w1'; have := S_w5; have := S_w2'; omega)
  have Q_o6 := Lib.hid o6.feet
  have e_b_6 := B_b.a11_6
  have f_b_6 := B_b.frozen 6
  have e_b_8 := B_b.a11_8
  have f_b_8 := B_b.frozen 8
  have e_a_8 := B_a.a11_8
  go_wp2
  clear e_b_6 f_b_6 e_b_8 f_b_8 e_a_8
  have g_1 : Only [w.heap.size + 2] w3' (w3'.setCell ⟨w.heap.size + 2, 6, none⟩ (.slice b6 5 d6)) := (Only.refl _ _).setCell _ _ (by simp)
  replace B_b := B_b.set_ 6 (.slice b6 5 d6)
  generalize w3'.setCell ⟨w.heap.size + 2, 6, none⟩ (.slice b6 5 d6) = w4_1' at *
  have G := g_1
  clear g_1
  have g_2 : Only [w.heap.size + 2] w4_1' (w4_1'.setCell ⟨w.heap.size + 2, 8, none⟩ (.slice none 0 0)) := (Only.refl _ _).setCell _ _ (by simp)
  replace B_b := B_b.set_ 8 (.slice none 0 0)
  generalize w4_1'.setCell ⟨w.heap.size + 2, 8, none⟩ (.slice none 0 0) = w4' at *
  replace G := G.trans g_2
  clear g_2
  simp only [List.setIfInBounds_toArray, List.set_cons_zero, List.set_cons_succ] at B_b
  have V_w4' := (V_w3').trans (G.below (V_w3').size (fun q hq => by have := (V_w3').size; simp at hq; omega))
  replace B_a := B_a.only G (by first | (simp; done) | (simp; omega))
  replace B_r := B_r.only G (by first | (simp; done) | (simp; omega))
  replace o5 := o5.only G (fun q hq hq' => by have := Q_o5.out q hq; simp at hq'; omega)
  replace o6 := o6.only G (fun q hq hq' => by have := Q_o6.out q hq; simp at hq'; omega)
  have sG0 := G.size
  clear G
  clear V_w3'
  have S_w4' : w3'.heap.size + 0 ≤ w4'.heap.size := by omega
  clear sG0
  have LL : w.heap.size + 3 ≤ w4'.heap.size := by have := S_w1'; have := S_w5; have := S_w2'; have := S_w3'; have := S_w4'; omega
  have R5 := Lib.hid o5.feet
  have R6 := Lib.hid o6.feet
  have LV := Lib.hid V_w4'
  go_loopw [20] (fun v wr => ∃ k : Nat, k ≤ x_hn ∧ v = .int .i64 k ∧ Below w.heap.size w wr ∧ Blk wr w.heap.size 31 #[.int .i64 a.P, .int .i64 a.party, .int .i64 a.input, .int .i64 a.mask, .int .i64 a.delta, .slice x_sa 5 x_sc, .slice x_ka 5 x_kc, .int .i64 a.step, .slice x_ha x_hn x_hc, .int .i64 a.status, .int .i64 a.out] ∧ Blk wr (w.heap.size + 1) 31 #[.int .i64 0, .int .i64 0, .int .i64 0, .int .i64 0, .int .i64 0, .slice none 0 0, .slice none 0 0, .int .i64 0, .slice none 0 0, .int .i64 0, .int .i64 0] ∧ OwnF 2 eTagged wr (w.heap.size + 3) b5 5 d5 a.shares ∧ Own wr (w.heap.size + 3) b6 5 d6 a.keys ∧ w4'.heap.size ≤ wr.heap.size ∧ ∃ c3 d3 rs', Blk wr (w.heap.size + 2) 31 #[.int .i64 a.P, .int .i64 a.party, .int .i64 a.input, .int .i64 a.mask, .int .i64 a.delta, .slice b5 5 d5, .slice b6 5 d6, .int .i64 a.step, .slice c3 k d3, .int .i64 a.status, .int .i64 a.out] ∧ OwnSS wr w4'.heap.size c3 k d3 rs' ∧ datas' rs' = a.heard.take k) (fun v _ => x_hn - (intOf v).toNat)
  case atStart => exact ⟨0, by omega, rfl, LV.out, B_a, B_r, o5, o6, Nat.le_refl _, none, 0, [], B_b, OwnSS.nil0 _ _ _, by simp [datas']⟩
  case round =>
    obtain ⟨k, hk, rfl, V_wr, B_a, B_r, o5, o6, SL, c3, d3, rs', B_b, own, hd3⟩ := hrel
    by_cases hlt : k < x_hn
    · obtain ⟨g, o, rfl, c0, inn⟩ := (hH.below V_wr).at k hlt
      obtain ⟨hr1, hr2⟩ := HR.out k hlt
      have hlt' : (k : Int) < (x_hn : Int) := by omega
      have HE : Hid (a.heard.take (k + 1) = a.heard.take k ++ [(rowAt rs k).2.2]) := Lib.hid (by
        rw [hr1, List.take_add_one]
        have : k < a.heard.length := by rw [HL.out]; exact hlt
        simp [hAt, List.getD, this])
      generalize rowAt rs k = r at *
      obtain ⟨ra, rc, rl⟩ := r
      dsimp only at *
      clear hr1
      have hd4 := Lib.hid hd3
      clear hd3
      have rl4 : rl.length ≤ 10000000 := by omega
      have e_b_8 := B_b.a11_8
      go_wp2
      refine wp_region_noPanic ?_
      refine wp_region_held_drew (S := (fun _ => True)) (by kernel_rfl) ?hS1 (fun hHeld => ?go1)
      case hS1 => trivial
      refine tk (i := 0) (oi := ⟨some 24, _, _, _, _, _⟩) (v := ?v0_2) hHeld rfl ?y0_2 ?r0_2
      case y0_2 => (intro w _; first | (go_simp; first | done | with_reducible rfl) | with_reducible rfl)
      (try simp only [pt_])
      refine tk (i := 2) (oi := ⟨some 26, _, _, _, _, _⟩) (v := ?v2_3) hHeld rfl ?y2_3 ?r2_3
      case y2_3 => (intro w _; first | (go_simp; first | done | with_reducible rfl) | with_reducible rfl)
      (try simp only [pt_])
      refine wpAnyH_ready (rs := [1, 3]) (by kernel_rfl) (by simp) ?_
      refine AllReadyH.cons (o := ⟨some 25, _, _, _, _, _⟩) rfl (fun K hK => ?_) ?_
      go_simp
      refine hK.out _ _ trivial (fun hHeld => ?_)
      clear hK K
      (try simp only [pt_])
      refine wpAnyH_ready (rs := [3]) (by kernel_rfl) (by simp) ?_
      refine AllReadyH.cons (o := ⟨some 27, _, _, _, _, _⟩) rfl (fun K hK => ?_) ?_
      go_simp
      refine (l1Own_any _ _ _ rl _ (inn.drew) rl4).mono ?_
      rintro e wz ⟨b9, d9, rfl, o9, u9⟩
      have B_b9 := Blk.below B_b.drew u9
      have h8 := B_b9.cell 8
      have h8A := (Blk.alloc B_b9 (.cells #[.slice b9 rl.length d9] 23)).cell 8
      focus (try go_wp2_with fail)
      refine hK.out _ _ trivial (fun hHeld => ?_)
      clear hK K
      (try simp only [pt_])
      refine wpAnyH_ready (rs := [4]) (by kernel_rfl) (by simp) ?_
      refine AllReadyH.cons (o := ⟨some 28, _, _, _, _, _⟩) rfl (fun K hK => ?_) ?_
      go_simp
      refine hK.out _ _ trivial (fun hHeld => ?_)
      clear hK K
      (try simp only [pt_])
      refine wpAnyH_ready (rs := [5]) (by kernel_rfl) (by simp) ?_
      refine AllReadyH.cons (o := ⟨some 29, _, _, _, _, _⟩) rfl (fun K hK => ?_) ?_
      have hdj : Disj (foot b9 d9) (feetSS c3 d3 rs') := Disj.of_rng o9.feet own.feet (Or.inr (Nat.le_refl _))
      have own2 := own.below ((Below.refl _ _).drew.trans u9)
      have o10 := o9.lower (b' := w4'.heap.size) SL
      have LIT := RowC.lit1 wz (rowV (b9, d9, rl)) 23
      have own3 := OwnSS.alloc own2 (.cells #[rowV (b9, d9, rl)] 23)
      have o11 := Own.alloc o10 (.cells #[rowV (b9, d9, rl)] 23)
      have OO : OwnC (wz.alloc (.cells #[rowV (b9, d9, rl)] 23)) w4'.heap.size c3 k d3 23 1 (rs'.map rowV) := own3.out
      have szz : w4'.heap.size ≤ (wz.alloc (.cells #[rowV (b9, d9, rl)] 23)).heap.size := by have := u9.size; simp at *; omega
      refine step_appSS (by rfl) _ _ (by rfl) w4'.heap.size c3 k d3 (rs'.map rowV) (by rfl) OO _ 1 1 [rowV (b9, d9, rl)] (by rfl) LIT (by simp [rowV, Value.oneCell']) (by omega) szz ?_
      intro a7 c7 w7 oc u7 g7 m7
      have Ng : w.heap.size + 2 ∉ foot c3 d3 := fun hq => by have := (own.feet _ (List.mem_append_left _ hq)).1; omega
      have B_b7 := Blk.only (Blk.alloc B_b9 (.cells #[rowV (b9, d9, rl)] 23)) (Only.of_grown g7) Ng
      have j8 := B_b7.cell 8
      have f8 := B_b7.frozen 8
      refine hK.out _ _ trivial (fun hHeld => ?_)
      clear hK K
      (try simp only [pt_])
      refine tk (i := 6) (oi := ⟨some 30, _, _, _, _, _⟩) (v := ?v6_4) hHeld rfl ?y6_4 ?r6_4
      case y6_4 => (intro w _; first | (go_simp; first | done | with_reducible rfl) | with_reducible rfl)
      (try simp only [pt_])
      refine wpAnyH_ready (rs := [7]) (by kernel_rfl) (by simp) ?_
      refine AllReadyH.cons (o := ⟨none, _, _, _, _, _⟩) rfl (fun K hK => ?_) ?_
      go_simp
      refine hK.out _ _ trivial (fun hHeld => ?_)
      clear hK K
      (try simp only [pt_])
      refine wpAnyH_done (by kernel_rfl) ?_ _
      refine NoPanic.normal ?_
      rotate_left 1
      exact AllReadyH.nil
      exact AllReadyH.nil
      exact AllReadyH.nil
      exact AllReadyH.nil
      refine AllReadyH.cons (o := ⟨some 27, _, _, _, _, _⟩) rfl (fun K hK => ?_) ?_
      go_simp
      refine (l1Own_any _ _ _ rl _ (inn.drew) rl4).mono ?_
      rintro e wz ⟨b9, d9, rfl, o9, u9⟩
      have B_b9 := Blk.below B_b.drew u9
      have h8 := B_b9.cell 8
      have h8A := (Blk.alloc B_b9 (.cells #[.slice b9 rl.length d9] 23)).cell 8
      focus (try go_wp2_with fail)
      refine hK.out _ _ trivial (fun hHeld => ?_)
      clear hK K
      (try simp only [pt_])
      refine wpAnyH_ready (rs := [1, 4]) (by kernel_rfl) (by simp) ?_
      refine AllReadyH.cons (o := ⟨some 25, _, _, _, _, _⟩) rfl (fun K hK => ?_) ?_
      go_simp
      refine hK.out _ _ trivial (fun hHeld => ?_)
      clear hK K
      (try simp only [pt_])
      refine wpAnyH_ready (rs := [4]) (by kernel_rfl) (by simp) ?_
      refine AllReadyH.cons (o := ⟨some 28, _, _, _, _, _⟩) rfl (fun K hK => ?_) ?_
      go_simp
      refine hK.out _ _ trivial (fun hHeld => ?_)
      clear hK K
      (try simp only [pt_])
      refine wpAnyH_ready (rs := [5]) (by kernel_rfl) (by simp) ?_
      refine AllReadyH.cons (o := ⟨some 29, _, _, _, _, _⟩) rfl (fun K hK => ?_) ?_
      have hdj : Disj (foot b9 d9) (feetSS c3 d3 rs') := Disj.of_rng o9.feet own.feet (Or.inr (Nat.le_refl _))
      have own2 := own.below ((Below.refl _ _).drew.trans u9)
      have o10 := o9.lower (b' := w4'.heap.size) SL
      have LIT := RowC.lit1 wz (rowV (b9, d9, rl)) 23
      have own3 := OwnSS.alloc own2 (.cells #[rowV (b9, d9, rl)] 23)
      have o11 := Own.alloc o10 (.cells #[rowV (b9, d9, rl)] 23)
      have OO : OwnC (wz.alloc (.cells #[rowV (b9, d9, rl)] 23)) w4'.heap.size c3 k d3 23 1 (rs'.map rowV) := own3.out
      have szz : w4'.heap.size ≤ (wz.alloc (.cells #[rowV (b9, d9, rl)] 23)).heap.size := by have := u9.size; simp at *; omega
      refine step_appSS (by rfl) _ _ (by rfl) w4'.heap.size c3 k d3 (rs'.map rowV) (by rfl) OO _ 1 1 [rowV (b9, d9, rl)] (by rfl) LIT (by simp [rowV, Value.oneCell']) (by omega) szz ?_
      intro a7 c7 w7 oc u7 g7 m7
      have Ng : w.heap.size + 2 ∉ foot c3 d3 := fun hq => by have := (own.feet _ (List.mem_append_left _ hq)).1; omega
      have B_b7 := Blk.only (Blk.alloc B_b9 (.cells #[rowV (b9, d9, rl)] 23)) (Only.of_grown g7) Ng
      have j8 := B_b7.cell 8
      have f8 := B_b7.frozen 8
      refine hK.out _ _ trivial (fun hHeld => ?_)
      clear hK K
      (try simp only [pt_])
      refine tk (i := 6) (oi := ⟨some 30, _, _, _, _, _⟩) (v := ?v6_5) hHeld rfl ?y6_5 ?r6_5
      case y6_5 => (intro w _; first | (go_simp; first | done | with_reducible rfl) | with_reducible rfl)
      (try simp only [pt_])
      refine wpAnyH_ready (rs := [7]) (by kernel_rfl) (by simp) ?_
      refine AllReadyH.cons (o := ⟨none, _, _, _, _, _⟩) rfl (fun K hK => ?_) ?_
      go_simp
      refine hK.out _ _ trivial (fun hHeld => ?_)
      clear hK K
      (try simp only [pt_])
      refine wpAnyH_done (by kernel_rfl) ?_ _
      refine NoPanic.normal ?_
      rotate_left 1
      exact AllReadyH.nil
      exact AllReadyH.nil
      exact AllReadyH.nil
      refine AllReadyH.cons (o := ⟨some 28, _, _, _, _, _⟩) rfl (fun K hK => ?_) ?_
      go_simp
      refine hK.out _ _ trivial (fun hHeld => ?_)
      clear hK K
      (try simp only [pt_])
      refine wpAnyH_ready (rs := [1]) (by kernel_rfl) (by simp) ?_
      refine AllReadyH.cons (o := ⟨some 25, _, _, _, _, _⟩) rfl (fun K hK => ?_) ?_
      go_simp
      refine hK.out _ _ trivial (fun hHeld => ?_)
      clear hK K
      (try simp only [pt_])
      refine wpAnyH_ready (rs := [5]) (by kernel_rfl) (by simp) ?_
      refine AllReadyH.cons (o := ⟨some 29, _, _, _, _, _⟩) rfl (fun K hK => ?_) ?_
      have hdj : Disj (foot b9 d9) (feetSS c3 d3 rs') := Disj.of_rng o9.feet own.feet (Or.inr (Nat.le_refl _))
      have own2 := own.below ((Below.refl _ _).drew.trans u9)
      have o10 := o9.lower (b' := w4'.heap.size) SL
      have LIT := RowC.lit1 wz (rowV (b9, d9, rl)) 23
      have own3 := OwnSS.alloc own2 (.cells #[rowV (b9, d9, rl)] 23)
      have o11 := Own.alloc o10 (.cells #[rowV (b9, d9, rl)] 23)
      have OO : OwnC (wz.alloc (.cells #[rowV (b9, d9, rl)] 23)) w4'.heap.size c3 k d3 23 1 (rs'.map rowV) := own3.out
      have szz : w4'.heap.size ≤ (wz.alloc (.cells #[rowV (b9, d9, rl)] 23)).heap.size := by have := u9.size; simp at *; omega
      refine step_appSS (by rfl) _ _ (by rfl) w4'.heap.size c3 k d3 (rs'.map rowV) (by rfl) OO _ 1 1 [rowV (b9, d9, rl)] (by rfl) LIT (by simp [rowV, Value.oneCell']) (by omega) szz ?_
      intro a7 c7 w7 oc u7 g7 m7
      have Ng : w.heap.size + 2 ∉ foot c3 d3 := fun hq => by have := (own.feet _ (List.mem_append_left _ hq)).1; omega
      have B_b7 := Blk.only (Blk.alloc B_b9 (.cells #[rowV (b9, d9, rl)] 23)) (Only.of_grown g7) Ng
      have j8 := B_b7.cell 8
      have f8 := B_b7.frozen 8
      refine hK.out _ _ trivial (fun hHeld => ?_)
      clear hK K
      (try simp only [pt_])
      refine tk (i := 6) (oi := ⟨some 30, _, _, _, _, _⟩) (v := ?v6_6) hHeld rfl ?y6_6 ?r6_6
      case y6_6 => (intro w _; first | (go_simp; first | done | with_reducible rfl) | with_reducible rfl)
      (try simp only [pt_])
      refine wpAnyH_ready (rs := [7]) (by kernel_rfl) (by simp) ?_
      refine AllReadyH.cons (o := ⟨none, _, _, _, _, _⟩) rfl (fun K hK => ?_) ?_
      go_simp
      refine hK.out _ _ trivial (fun hHeld => ?_)
      clear hK K
      (try simp only [pt_])
      refine wpAnyH_done (by kernel_rfl) ?_ _
      refine NoPanic.normal ?_
      rotate_left 1
      exact AllReadyH.nil
      exact AllReadyH.nil
      exact AllReadyH.nil
      exact AllReadyH.nil
      exact AllReadyH.nil
      all_goals
        have own4 := own3.push (r := (b9, d9, rl)) o11 hdj oc g7 m7
        have uA : Below wr.heap.size wr wz := (Below.refl _ _).drew.trans u9
        have QR := Lib.hid own.feet
        have hd5 := Lib.hid ((show datas' (rs' ++ [(b9, d9, rl)]) = a.heard.take (k + 1) by rw [HE.out, ← hd4.out]; simp [datas']))
        have SLz := SL
        clear own own2 o9 o10 o11 own3 oc u9 m7 hdj LIT OO szz B_b9 B_b7 h8 h8A j8 f8 c0 inn
        clear e_b_8
        replace B_a := B_a.below uA
        replace B_r := B_r.below uA
        replace B_b := B_b.below uA
        replace o5 := o5.below uA
        replace o6 := o6.below uA
        have S_wz := uA.size
        have V_wz : Below w.heap.size w wz := V_wr.trans (uA.mono V_wr.size)
        clear V_wr
        clear uA
        refine Exists.elim (Blk.new_ wz (b := wz.heap.size) rfl 23 #[.slice b9 rl.length d9]) (fun w5' q => ?_)
        (try rw [q.1] at g7); (try rw [q.1] at u7); (try rw [q.1]); have B_z := q.2.1; have s_w5' := q.2.2.1; have u_w5' := q.2.2.2; clear q
        replace B_a := B_a.below u_w5'
        replace B_r := B_r.below u_w5'
        replace B_b := B_b.below u_w5'
        replace o5 := o5.below u_w5'
        replace o6 := o6.below u_w5'
        have S_w5' : wz.heap.size + 1 ≤ w5'.heap.size := Nat.le_of_eq s_w5'.symm
        have V_w5' := V_wz.trans (u_w5'.mono (V_wz).size)
        clear u_w5' s_w5' V_wz
        clear B_z
        have oG := Only.of_grown g7
        have V_w7 : Below w.heap.size w w7 := V_w5'.trans (u7.mono (show w.heap.size ≤ w4'.heap.size by omega))
        have NN : ∀ q, q ∈ foot c3 d3 → w4'.heap.size ≤ q := fun q hq => (QR.out q (List.mem_append_left _ hq)).1
        replace B_a := Blk.only B_a oG (fun hq => by have := NN _ hq; omega)
        replace B_r := Blk.only B_r oG (fun hq => by have := NN _ hq; omega)
        replace B_b := Blk.only B_b oG (fun hq => by have := NN _ hq; omega)
        replace o5 := OwnF.only o5 oG (fun q hq hq' => by have := NN _ hq'; have := R5.out _ hq; omega)
        replace o6 := o6.only oG (fun q hq hq' => by have := NN _ hq'; have := R6.out _ hq; omega)
        have SLw := oG.size
        clear oG u7 g7 NN
        have Q_own4 := Lib.hid own4.feet
        have g_1 : Only [w.heap.size + 2] w7 (w7.setCell ⟨w.heap.size + 2, 8, none⟩ (.slice a7 (k + 1) c7)) := (Only.refl _ _).setCell _ _ (by simp)
        replace B_b := B_b.set_ 8 (.slice a7 (k + 1) c7)
        generalize w7.setCell ⟨w.heap.size + 2, 8, none⟩ (.slice a7 (k + 1) c7) = w6' at *
        have G := g_1
        clear g_1
        simp only [List.setIfInBounds_toArray, List.set_cons_zero, List.set_cons_succ] at B_b
        have V_w6' := (V_w7).trans (G.below (V_w7).size (fun q hq => by have := (V_w7).size; simp at hq; omega))
        replace B_a := B_a.only G (by first | (simp; done) | (simp; omega))
        replace B_r := B_r.only G (by first | (simp; done) | (simp; omega))
        replace o5 := o5.only G (fun q hq hq' => by have := Q_o5.out q hq; simp at hq'; omega)
        replace o6 := o6.only G (fun q hq hq' => by have := Q_o6.out q hq; simp at hq'; omega)
        replace own4 := own4.only G (fun q hq hq' => by have := Q_own4.out q hq; simp at hq'; omega)
        have sG0 := G.size
        clear G
        clear V_w7
        have S_w6' : w7.heap.size + 0 ≤ w6'.heap.size := by omega
        clear sG0
        go_wp2
        go_roundw
        case rel => exact ⟨k + 1, by omega, by go_num, V_w6', B_a, B_r, o5, o6, by omega, a7, c7, _, B_b, own4, hd5.out⟩
        case measure => simp [intOf]; omega
    · obtain rfl : x_hn = k := by omega
      have QQ := Lib.hid own.feet
      have hdd : datas' rs' = a.heard := by rw [hd3, ← HL.out, List.take_length]
      replace hdd := Lib.hid hdd
      have E1 : Disj (foot b5 d5) (feetSS c3 d3 rs') := Disj.of_rng R5.out own.feet (Or.inl (Nat.le_refl _))
      have E2 : Disj (foot b6 d6) (feetSS c3 d3 rs') := Disj.of_rng R6.out own.feet (Or.inl (Nat.le_refl _))
      replace own := own.lower (b' := w.heap.size + 3) LL
      have Q_own := Lib.hid own.feet
      clear hd3
      have e_b := B_b.all11
      have f_b := B_b.frz11
      have e_r := B_r.all11
      have f_r := B_r.frz11
      go_wp2
      clear e_b f_b e_r f_r
      refine Exists.elim (B_r.row11 (.int .i64 a.P) (.int .i64 a.party) (.int .i64 a.input) (.int .i64 a.mask) (.int .i64 a.delta) (.slice b5 5 d5) (.slice b6 5 d6) (.int .i64 a.step) (.slice c3 x_hn d3) (.int .i64 a.status) (.int .i64 a.out)) (fun w7' q => ?_)
      rw [q.1]; replace B_r := q.2.1; have G := q.2.2; clear q
      have V_w7' := (V_wr).trans (G.below (V_wr).size (fun q hq => by have := (V_wr).size; simp at hq; omega))
      replace B_a := B_a.only G (by first | (simp; done) | (simp; omega))
      replace B_b := B_b.only G (by first | (simp; done) | (simp; omega))
      replace o5 := o5.only G (fun q hq hq' => by have := Q_o5.out q hq; simp at hq'; omega)
      replace o6 := o6.only G (fun q hq hq' => by have := Q_o6.out q hq; simp at hq'; omega)
      replace own := own.only G (fun q hq hq' => by have := Q_own.out q hq; simp at hq'; omega)
      have sG0 := G.size
      clear G
      clear V_wr
      have S_w7' : wr.heap.size + 0 ≤ w7'.heap.size := by omega
      clear sG0
      have e_r := B_r.all11
      exact bodyPost_ret (v := .agg #[.int .i64 a.P, .int .i64 a.party, .int .i64 a.input, .int .i64 a.mask, .int .i64 a.delta, .slice b5 5 d5, .slice b6 5 d6, .int .i64 a.step, .slice c3 x_hn d3, .int .i64 a.status, .int .i64 a.out]) (by simp [results, Tryd.results90, go_sem, e_r]) rfl ⟨⟨b5, 5, d5, b6, 5, d6, c3, x_hn, d3⟩, _, rfl, ⟨OwnF.lower o5 (by omega), o6.lower (by omega), rs', own.lower (by omega), hdd.out, D56, E1, E2, rfl⟩, V_w7'⟩
end Go.Proofs.YtlmdckcohoddnaaDoor
namespace Go.Proofs.YtlmdckcohoddnaaDoor
open Go.RowKit
abbrev MsRow := Int × Int × RowD
abbrev MsD := Int × Int × List Int
def msC (r : MsRow) : List Value := [.int .i64 r.1, .int .i64 r.2.1, rowV r.2.2]
def msD (r : MsRow) : MsD := (r.1, r.2.1, r.2.2.2.2)
def bod (rs : List MsRow) : List RowD := rs.map fun r => r.2.2
def msAt (rs : List MsRow) (j : Nat) : MsRow := rs.getD j (0, 0, rowNil)
theorem msAt_mem {rs : List MsRow} {j : Nat} (h : j < rs.length) : msAt rs j ∈ rs := by
  unfold msAt; simp [List.getD, h]
theorem msAt_some {rs : List MsRow} {j : Nat} (h : j < rs.length) : rs[j]? = some (msAt rs j) := by
  unfold msAt; simp [List.getD, h]
theorem bod_len (rs : List MsRow) : (bod rs).length = rs.length := by simp [bod]
theorem bod_at {rs : List MsRow} {j : Nat} (h : j < rs.length) : rowAt (bod rs) j = (msAt rs j).2.2 := by
  unfold rowAt msAt bod; simp [List.getD, h]
theorem msC_len (rs : List MsRow) : (rs.flatMap msC).length = rs.length * 3 := by
  induction rs with
  | nil => rfl
  | cons r rs ih => rw [List.flatMap_cons, List.length_append, ih]; simp [msC]; omega
theorem msC_at {rs : List MsRow} : ∀ {i j : Nat}, i < rs.length → j < 3 → (rs.flatMap msC)[i * 3 + j]? = (msC (msAt rs i))[j]? := by
  induction rs with
  | nil => intro i j hi; simp at hi
  | cons r rs ih =>
    intro i j hi hj
    cases i with
    | zero =>
      rw [List.flatMap_cons, List.getElem?_append_left (by simp [msC]; omega)]
      simp [msAt]
    | succ i =>
      rw [List.flatMap_cons, List.getElem?_append_right (by simp [msC]; omega), show (i + 1) * 3 + j - (msC r).length = i * 3 + j by simp [msC]; omega, ih (by simpa using hi) hj]
      simp [msAt]
theorem msC_set (r : MsRow) : ∀ {rs : List MsRow} {i : Nat}, i < rs.length → (rs.set i r).flatMap msC = (((rs.flatMap msC).set (i * 3) (.int .i64 r.1)).set (i * 3 + 1) (.int .i64 r.2.1)).set (i * 3 + 2) (rowV r.2.2) := by
  intro rs
  induction rs with
  | nil => intro i hi; simp at hi
  | cons s rs ih =>
    intro i hi
    cases i with
    | zero => simp [msC]
    | succ i =>
      rw [List.set_cons_succ, List.flatMap_cons, List.flatMap_cons, ih (by simpa using hi), show (i + 1) * 3 = i * 3 + 1 + 1 + 1 by omega]
      simp [msC]
structure MsS (w : World) (a : Option Addr) (n c : Nat) (rs : List MsRow) : Prop where
  row : RowC w a n c 3 (rs.flatMap msC)
  inn : ∀ r ∈ rs, Ints w r.2.2.1 r.2.2.2.2.length r.2.2.2.1 r.2.2.2.2
theorem MsS.len {w a n c rs} (h : MsS w a n c rs) : rs.length = n := by have := h.row.1; rw [msC_len] at this; omega
theorem MsS.le {w a n c rs} (h : MsS w a n c rs) : (n : Int) ≤ 9223372036854775807 := by
  have := h.row.2.1; have := h.row.2.2.1; unfold maxLen at this; omega
theorem MsS.below {w w' a n c rs} (h : MsS w a n c rs) (hb : Below w.heap.size w w') : MsS w' a n c rs := ⟨h.row.below hb, fun r hr => (h.inn r hr).below hb⟩
theorem MsS.at {w a n c rs} (h : MsS w a n c rs) (k : Nat) (hk : k < n) : ∃ g o, a = some ⟨g, o, none⟩ ∧ w.cell? ⟨g, o + k * 3, none⟩ = some (.int .i64 (msAt rs k).1) ∧ w.cell? ⟨g, o + k * 3 + 1, none⟩ = some (.int .i64 (msAt rs k).2.1) ∧
    w.cell? ⟨g, o + k * 3 + 2, none⟩ = some (.slice (msAt rs k).2.2.1 (msAt rs k).2.2.2.2.length (msAt rs k).2.2.2.1) ∧ Ints w (msAt rs k).2.2.1 (msAt rs k).2.2.2.2.length (msAt rs k).2.2.2.1 (msAt rs k).2.2.2.2 := by
  have hl := h.len
  obtain ⟨_, _, _, _, g, o, h1, h2⟩ := h.row
  refine ⟨g, o, h1 (by omega), ?_, ?_, ?_, h.inn _ (msAt_mem (by omega))⟩
  · have := h2 (k * 3 + 0) (.int .i64 (msAt rs k).1) (by rw [msC_at (by omega) (by omega)]; rfl)
    simpa using this
  · have := h2 (k * 3 + 1) (.int .i64 (msAt rs k).2.1) (by rw [msC_at (by omega) (by omega)]; rfl)
    simpa only [Nat.add_assoc] using this
  · have := h2 (k * 3 + 2) (rowV (msAt rs k).2.2) (by rw [msC_at (by omega) (by omega)]; rfl)
    simp only [Nat.add_assoc] at this ⊢
    exact this
structure MsW (w : World) (b : Nat) (a : Option Addr) (n c : Nat) (rs : List MsRow) : Prop where
  out : OwnC w b a n c 44 3 (rs.flatMap msC)
  inn : ∀ r ∈ rs, Own w b r.2.2.1 r.2.2.2.2.length r.2.2.2.1 r.2.2.2.2
  dis : (bod rs).Pairwise fun r s => Disj (foot r.1 r.2.1) (foot s.1 s.2.1)
  apart : Disj (foot a c) (rowsF (bod rs))
theorem MsW.reads {w b a n c rs} (h : MsW w b a n c rs) : MsS w a n c rs := ⟨h.out.row, fun r hr => (h.inn r hr).ints⟩
theorem MsW.cap {w b a n c rs} (h : MsW w b a n c rs) : n ≤ c ∧ c ≤ maxLen := ⟨h.out.row.2.1, h.out.row.2.2.1⟩
theorem mem_bod {rs : List MsRow} {r : MsRow} (h : r ∈ rs) : r.2.2 ∈ bod rs := List.mem_map.2 ⟨r, h, rfl⟩
theorem MsW.feet {w : World} {b a n c rs} (h : MsW w b a n c rs) : ∀ k ∈ feetSS a c (bod rs), b ≤ k ∧ k < w.heap.size := fun k hk => by
  rcases List.mem_append.1 hk with hk | hk
  · exact h.out.feet k hk
  · obtain ⟨r, hr, hk⟩ := List.mem_flatMap.1 hk
    obtain ⟨s, hs, rfl⟩ := List.mem_map.1 hr
    exact (h.inn s hs).feet k hk
theorem MsW.only {X : List Nat} {w w' : World} {b a n c rs} (h : MsW w b a n c rs) (ho : Only X w w') (hd : Disj (feetSS a c (bod rs)) X) : MsW w' b a n c rs :=
  ⟨h.out.only ho (fun k hk => hd k (List.mem_append_left _ hk)), fun r hr => (h.inn r hr).only ho (fun k hk => hd k (List.mem_append_right _ (mem_rowsF (mem_bod hr) hk))), h.dis, h.apart⟩
theorem MsW.below {w w' : World} {b a n c rs} (h : MsW w b a n c rs) (hb : Below w.heap.size w w') : MsW w' b a n c rs := ⟨h.out.below hb, fun r hr => (h.inn r hr).below hb, h.dis, h.apart⟩
theorem MsW.lower {w : World} {b b' a n c rs} (h : MsW w b a n c rs) (hb : b' ≤ b) : MsW w b' a n c rs := ⟨h.out.lower hb, fun r hr => (h.inn r hr).lower hb, h.dis, h.apart⟩
theorem MsW.nil0 (w : World) (b : Nat) (a : Option Addr) : MsW w b a 0 0 [] := ⟨OwnC.nil0 _ _ _ _ _, fun r hr => (by cases hr), List.Pairwise.nil, fun k hk => by simp [foot, rowOf] at hk⟩
theorem msC_rep (n : Nat) : (List.replicate n ((0, 0, rowNil) : MsRow)).flatMap msC = (List.replicate n [Value.int .i64 0, .int .i64 0, .slice none 0 0]).flatten := by
  induction n with
  | zero => rfl
  | succ n ih => rw [List.replicate_succ, List.flatMap_cons, ih, List.replicate_succ, List.flatten_cons]; rfl
theorem bod_rep (n : Nat) : bod (List.replicate n ((0, 0, rowNil) : MsRow)) = List.replicate n rowNil := by simp [bod]
theorem MsW.made {w : World} {b : Nat} {a : Option Addr} {n c : Nat} (h : OwnC w b a n c 44 3 ((List.replicate n [Value.int .i64 0, .int .i64 0, .slice none 0 0]).flatten)) : MsW w b a n c (List.replicate n (0, 0, rowNil)) :=
  ⟨by rw [msC_rep]; exact h, fun r hr => by rw [List.eq_of_mem_replicate hr]; exact Own.nil0 _ _ _, by
    rw [bod_rep, List.pairwise_replicate]
    right
    intro k hk
    simp [rowNil, foot_zero] at hk, by rw [bod_rep, rowsF_nils]; exact Disj.nil_r _⟩
theorem bod_set (rs : List MsRow) (i : Nat) (r : MsRow) : bod (rs.set i r) = (bod rs).set i r.2.2 := by unfold bod; rw [List.map_set]
theorem MsW.cells {w : World} {b n c i : Nat} {a : Option Addr} {rs : List MsRow} (h : MsW w b a n c rs) (hi : i < n) : ∃ g, a = some ⟨g, 0, none⟩ ∧ b ≤ g ∧ g < w.heap.size ∧ g ∈ foot a c ∧
    (w.cell? ⟨g, i * 3, none⟩ = some (.int .i64 (msAt rs i).1) ∧ w.cell? ⟨g, i * 3 + 1, none⟩ = some (.int .i64 (msAt rs i).2.1) ∧ w.cell? ⟨g, i * 3 + 2, none⟩ = some (rowV (msAt rs i).2.2)) ∧
    (w.frozen? ⟨g, i * 3, none⟩ = false ∧ w.frozen? ⟨g, i * 3 + 1, none⟩ = false ∧ w.frozen? ⟨g, i * 3 + 2, none⟩ = false) := by
  have hl := h.reads.len
  have hc := h.cap
  obtain ⟨g, rfl, hb, hg, ⟨u0, hu0, hc0⟩, hf0, _⟩ := OwnC.atC h.out (i * 3) (by omega)
  obtain ⟨_, E1, _, _, ⟨u1, hu1, hc1⟩, hf1, _⟩ := OwnC.atC h.out (i * 3 + 1) (by omega)
  cases E1
  obtain ⟨_, E2, _, _, ⟨u2, hu2, hc2⟩, hf2, _⟩ := OwnC.atC h.out (i * 3 + 2) (by omega)
  cases E2
  have e0 := msC_at (rs := rs) (i := i) (j := 0) (by omega) (by omega)
  rw [Nat.add_zero, hu0] at e0
  rw [msC_at (by omega) (by omega)] at hu1 hu2
  refine ⟨g, rfl, hb, hg, foot_mem (x := ⟨g, 0, none⟩) (by omega), ⟨by rw [hc0, e0]; rfl, by rw [hc1, ← hu1]; rfl, by rw [hc2, ← hu2]; rfl⟩, hf0, hf1, hf2⟩
theorem MsW.putRow {w : World} {b g n c i : Nat} {rs : List MsRow} {r : MsRow} (h : MsW w b (some ⟨g, 0, none⟩) n c rs) (hi : i < n) (hr : Own w b r.2.2.1 r.2.2.2.2.length r.2.2.2.1 r.2.2.2.2) (hd : Disj (foot r.2.2.1 r.2.2.2.1) (feetSS (some ⟨g, 0, none⟩) c (bod rs))) :
    MsW (((w.setCell ⟨g, i * 3, none⟩ (.int .i64 r.1)).setCell ⟨g, i * 3 + 1, none⟩ (.int .i64 r.2.1)).setCell ⟨g, i * 3 + 2, none⟩ (rowV r.2.2)) b (some ⟨g, 0, none⟩) n c (rs.set i r) := by
  have hl := h.reads.len
  have hc := h.cap
  have hg : g ∈ foot (some ⟨g, 0, none⟩ : Option Addr) c := foot_mem (x := ⟨g, 0, none⟩) (by omega)
  obtain ⟨_, E, _, _, _, _, hs⟩ := OwnC.atC h.out (i * 3) (by omega)
  cases E
  have s1 := hs (.int .i64 r.1)
  obtain ⟨_, E, _, _, _, _, hs⟩ := OwnC.atC s1 (i * 3 + 1) (by omega)
  cases E
  have s2 := hs (.int .i64 r.2.1)
  obtain ⟨_, E, _, _, _, _, hs⟩ := OwnC.atC s2 (i * 3 + 2) (by omega)
  cases E
  have s3 := hs (rowV r.2.2)
  have ho : Only [g] w (((w.setCell ⟨g, i * 3, none⟩ (.int .i64 r.1)).setCell ⟨g, i * 3 + 1, none⟩ (.int .i64 r.2.1)).setCell ⟨g, i * 3 + 2, none⟩ (rowV r.2.2)) := (((Only.refl _ _).setCell _ _ (by simp)).setCell _ _ (by simp)).setCell _ _ (by simp)
  refine ⟨by rw [msC_set r (by omega)]; exact s3, fun s hs' => ?_, ?_, ?_⟩
  · rcases List.mem_or_eq_of_mem_set hs' with hs' | rfl
    · exact (h.inn s hs').only ho (fun k hk hk' => by simp at hk'; subst hk'; exact h.apart _ hg (mem_rowsF (mem_bod hs') hk))
    · exact hr.only ho (fun k hk hk' => by simp at hk'; subst hk'; exact hd _ hk (List.mem_append_left _ hg))
  · rw [bod_set, List.pairwise_iff_getElem]
    intro x y hx hy hxy
    rw [List.length_set] at hx hy
    have hp := List.pairwise_iff_getElem.1 h.dis x y hx hy hxy
    rw [List.getElem_set, List.getElem_set]
    by_cases e1 : i = x
    · rw [if_pos e1, if_neg (by omega)]
      exact fun k hk hk' => hd k hk (List.mem_append_right _ (mem_rowsF (List.getElem_mem hy) hk'))
    · rw [if_neg e1]
      by_cases e2 : i = y
      · rw [if_pos e2]
        exact fun k hk hk' => hd k hk' (List.mem_append_right _ (mem_rowsF (List.getElem_mem hx) hk))
      · rw [if_neg e2]; exact hp
  · rw [bod_set]
    intro k hk hk'
    rcases mem_rowsF_set hk' with h1 | h1
    · exact h.apart k hk h1
    · exact hd k h1 (List.mem_append_left _ hk)
theorem set_same {α : Type} {M : List α} {k : Nat} {v : α} (h : M[k]? = some v) : M.set k v = M := by
  apply List.ext_getElem?
  intro j
  rw [List.getElem?_set]
  by_cases e : k = j
  · subst e
    have := (List.getElem?_eq_some_iff.1 h).1
    rw [if_pos rfl, if_pos this, h]
  · rw [if_neg e]
theorem msC_same {rs : List MsRow} {i : Nat} {r : MsRow} (hi : i < rs.length) (h : msC r = msC (msAt rs i)) : (rs.set i r).flatMap msC = rs.flatMap msC := by
  have e0 := msC_at (rs := rs) (i := i) (j := 0) hi (by omega)
  have e1 := msC_at (rs := rs) (i := i) (j := 1) hi (by omega)
  have e2 := msC_at (rs := rs) (i := i) (j := 2) hi (by omega)
  rw [← h] at e0 e1 e2
  rw [Nat.add_zero] at e0
  rw [msC_set r hi, set_same (M := rs.flatMap msC) e0, set_same e1, set_same e2]
theorem MsW.put {w w' : World} {b a n c rs} (h : MsW w b a n c rs) (i : Nat) (hi : i < rs.length) (l : List Int) (o : Own w' b (msAt rs i).2.2.1 (msAt rs i).2.2.2.2.length (msAt rs i).2.2.2.1 l) (ho : Only (foot (msAt rs i).2.2.1 (msAt rs i).2.2.2.1) w w') :
    MsW w' b a n c (rs.set i ((msAt rs i).1, (msAt rs i).2.1, (msAt rs i).2.2.1, (msAt rs i).2.2.2.1, l)) := by
  have hl : l.length = (msAt rs i).2.2.2.2.length := by have := o.len; omega
  have hm := msAt_mem hi
  have hb := bod_at hi
  have hk := set_key (bod rs) i l (by rw [hb]; exact hl) (by rw [bod_len]; exact hi)
  rw [hb] at hk
  have eb : bod (rs.set i ((msAt rs i).1, (msAt rs i).2.1, (msAt rs i).2.2.1, (msAt rs i).2.2.2.1, l)) = (bod rs).set i ((msAt rs i).2.2.1, (msAt rs i).2.2.2.1, l) := bod_set _ _ _
  refine ⟨?_, fun r hr => ?_, ?_, ?_⟩
  · rw [msC_same hi (by simp [msC, rowV, hl])]
    exact h.out.only ho (fun k hk hk' => h.apart k hk (mem_rowsF (mem_bod hm) hk'))
  · obtain ⟨j, hj⟩ := List.getElem?_of_mem hr
    rw [List.getElem?_set] at hj
    by_cases e : i = j
    · subst e
      rw [if_pos rfl, if_pos hi, Option.some.injEq] at hj
      subst hj
      rw [← hl] at o
      exact o
    · rw [if_neg e] at hj
      have hjl := (List.getElem?_eq_some_iff.1 hj).1
      have hrr : msAt rs j = r := by have := msAt_some hjl; rw [hj] at this; exact (Option.some.inj this).symm
      have hmr : r ∈ rs := by rw [← hrr]; exact msAt_mem hjl
      refine (h.inn r hmr).only ho ?_
      have hp := List.pairwise_iff_getElem.1 h.dis
      have ei : (bod rs)[i]'(by rw [bod_len]; exact hi) = (msAt rs i).2.2 := by simp [bod, msAt, List.getD, hi]
      have ej : (bod rs)[j]'(by rw [bod_len]; exact hjl) = r.2.2 := by rw [← hrr]; simp [bod, msAt, List.getD, hjl]
      rcases Nat.lt_or_gt_of_ne e with hlt | hgt
      · have := hp i j (by rw [bod_len]; exact hi) (by rw [bod_len]; exact hjl) hlt; rw [ei, ej] at this; exact this.symm
      · have := hp j i (by rw [bod_len]; exact hjl) (by rw [bod_len]; exact hi) hgt; rw [ei, ej] at this; exact this
  · have e : ∀ q : List RowD, (q.Pairwise fun r s => Disj (foot r.1 r.2.1) (foot s.1 s.2.1)) ↔ ((q.map (fun r => (r.1, r.2.1, r.2.2.length))).Pairwise fun r s => Disj (foot r.1 r.2.1) (foot s.1 s.2.1)) := fun q => by rw [List.pairwise_map]
    rw [eb, e, hk, ← e]
    exact h.dis
  · rw [eb, rowsF_key hk]; exact h.apart
def UpS (k : Int) (rs : List MsRow) : Prop := ∀ j, j < rs.length → (msAt rs j).1 = k + 2 * j + tot ((bod rs).take j) ∧ (msAt rs j).2.1 = k + 2 * j + tot ((bod rs).take j) + 1 ∧ UpFrom (k + 2 * j + tot ((bod rs).take j) + 2) (msAt rs j).2.2.2.2
def MsR (w : World) (a : Option Addr) (n c : Nat) (D : List MsD) : Prop := ∃ rs, MsS w a n c rs ∧ rs.map msD = D
def MsO (w : World) (b : Nat) (a : Option Addr) (n c : Nat) (D : List MsD) (F : List Nat) : Prop := ∃ rs, MsW w b a n c rs ∧ rs.map msD = D ∧ F = feetSS a c (bod rs)
def totM (D : List MsD) : Nat := (D.map fun d => d.2.2.length).sum
def szM (n : Nat) (D : List MsD) : Nat := n + totM D
def cntM (D : List MsD) : Nat := 2 * D.length + totM D
def mdAt (D : List MsD) (j : Nat) : MsD := D.getD j (0, 0, [])
def UpM (k : Int) (D : List MsD) : Prop := ∀ j, j < D.length → (mdAt D j).1 = k + 2 * j + totM (D.take j) ∧ (mdAt D j).2.1 = k + 2 * j + totM (D.take j) + 1 ∧ UpFrom (k + 2 * j + totM (D.take j) + 2) (mdAt D j).2.2
theorem totM_map (rs : List MsRow) : totM (rs.map msD) = tot (bod rs) := by unfold totM tot bod; rw [List.map_map, List.map_map]; rfl
theorem totM_take (rs : List MsRow) (j : Nat) : totM ((rs.map msD).take j) = tot ((bod rs).take j) := by
  rw [← List.map_take, totM_map]; unfold bod; rw [List.map_take]
theorem mdAt_map {rs : List MsRow} {j : Nat} (h : j < rs.length) : mdAt (rs.map msD) j = msD (msAt rs j) := by
  unfold mdAt msAt; simp [List.getD, h]
theorem UpM.of {k : Int} {rs : List MsRow} : UpM k (rs.map msD) ↔ UpS k rs := by
  unfold UpM UpS
  constructor
  · intro h j hj
    have := h j (by simpa using hj)
    rwa [totM_take, mdAt_map hj] at this
  · intro h j hj
    have hj' : j < rs.length := by simpa using hj
    rw [totM_take, mdAt_map hj']
    exact h j hj'
theorem MsR.below {w w' a n c D} (h : MsR w a n c D) (hb : Below w.heap.size w w') : MsR w' a n c D := by obtain ⟨rs, h1, h2⟩ := h; exact ⟨rs, h1.below hb, h2⟩
theorem MsR.len {w a n c D} (h : MsR w a n c D) : D.length = n := by obtain ⟨rs, h1, rfl⟩ := h; rw [List.length_map]; exact h1.len
theorem MsR.le {w a n c D} (h : MsR w a n c D) : (n : Int) ≤ 9223372036854775807 := by obtain ⟨rs, h1, _⟩ := h; exact h1.le
theorem MsR.cnt {w a n c D} (h : MsR w a n c D) (ht : (szM n D : Int) ≤ 1048576) : cntM D ≤ 4000000 := by
  have := h.len; unfold szM at ht; unfold cntM; omega
theorem MsO.rd {w b a n c D F} (h : MsO w b a n c D F) : MsR w a n c D := by obtain ⟨rs, h1, h2, _⟩ := h; exact ⟨rs, h1.reads, h2⟩
theorem MsO.feet {w b a n c D F} (h : MsO w b a n c D F) : ∀ q ∈ F, b ≤ q ∧ q < w.heap.size := by obtain ⟨rs, h1, _, rfl⟩ := h; exact h1.feet
theorem MsO.only {X : List Nat} {w w' b a n c D F} (h : MsO w b a n c D F) (ho : Only X w w') (hd : Disj F X) : MsO w' b a n c D F := by obtain ⟨rs, h1, h2, rfl⟩ := h; exact ⟨rs, h1.only ho hd, h2, rfl⟩
theorem MsO.below {w w' b a n c D F} (h : MsO w b a n c D F) (hb : Below w.heap.size w w') : MsO w' b a n c D F := by obtain ⟨rs, h1, h2, h3⟩ := h; exact ⟨rs, h1.below hb, h2, h3⟩
theorem MsO.alloc {w b a n c D F} (h : MsO w b a n c D F) (o : Obj) : MsO (w.alloc o) b a n c D F := h.below ((Below.refl _ _).alloc (Nat.le_refl _) _)
theorem MsO.drew {w b a n c D F} (h : MsO w b a n c D F) : MsO w.drew b a n c D F := h.below ((Below.refl _ _).drew)
theorem MsO.lower {w b b' a n c D F} (h : MsO w b a n c D F) (hb : b' ≤ b) : MsO w b' a n c D F := by obtain ⟨rs, h1, h2, h3⟩ := h; exact ⟨rs, h1.lower hb, h2, h3⟩
theorem MsO.nil (w : World) (b : Nat) (a : Option Addr) : MsO w b a 0 0 [] [] := ⟨[], MsW.nil0 _ _ _, rfl, by simp [bod, feetSS_nil]⟩
end Go.Proofs.YtlmdckcohoddnaaDoor
namespace Go.Proofs.YtlmdckcohoddnaaDoor
open Go.RowKit
theorem bod_app (l l' : List MsRow) : bod (l ++ l') = bod l ++ bod l' := by unfold bod; rw [List.map_append]
theorem MsW.app {w w' : World} {b a n c} {rs rs2 : List MsRow} {a5 : Option Addr} {n5 c5 : Nat} (h : MsW w b a n c rs) (h2 : ∀ r ∈ rs2, Own w b r.2.2.1 r.2.2.2.2.length r.2.2.2.1 r.2.2.2.2)
    (hp : (bod rs2).Pairwise fun r s => Disj (foot r.1 r.2.1) (foot s.1 s.2.1)) (hd : Disj (rowsF (bod rs2)) (feetSS a c (bod rs)))
    (o : OwnC w' b a5 n5 c5 44 3 (rs.flatMap msC ++ rs2.flatMap msC)) (g : w.grownBy w' (rowOf a c)) (m : Moved w a c a5 c5) : MsW w' b a5 n5 c5 (rs ++ rs2) := by
  have lt2 : ∀ k ∈ rowsF (bod rs2), k < w.heap.size := fun k hk => by
    obtain ⟨r, hr, hk⟩ := List.mem_flatMap.1 hk
    obtain ⟨s, hs, rfl⟩ := List.mem_map.1 hr
    exact ((h2 s hs).feet k hk).2
  refine ⟨by rw [List.flatMap_append]; exact o, fun s hs => ?_, ?_, ?_⟩
  · rcases List.mem_append.1 hs with hs | hs
    · exact (h.inn s hs).only (Only.of_grown g) (fun k hk hk' => h.apart k hk' (mem_rowsF (mem_bod hs) hk))
    · exact (h2 s hs).only (Only.of_grown g) (fun k hk hk' => hd k (mem_rowsF (mem_bod hs) hk) (List.mem_append_left _ hk'))
  · rw [bod_app, List.pairwise_append]
    exact ⟨h.dis, hp, fun r hr s hs k hk hk' => hd k (mem_rowsF hs hk') (List.mem_append_right _ (mem_rowsF hr hk))⟩
  · rw [bod_app, rowsF_app]
    refine (m.disj (F := rowsF (bod rs) ++ rowsF (bod rs2)) ?_ ?_)
    · exact h.apart.app (fun k hk hk' => hd k hk' (List.mem_append_left _ hk))
    · intro k hk
      rcases List.mem_append.1 hk with hk | hk
      · exact (h.feet k (List.mem_append_right _ hk)).2
      · exact lt2 k hk
theorem MsW.app2 {w w' : World} {b a n c} {rs : List MsRow} {r s : MsRow} {a5 : Option Addr} {c5 : Nat} (h : MsW w b a n c rs) (hr : Own w b r.2.2.1 r.2.2.2.2.length r.2.2.2.1 r.2.2.2.2) (hs : Own w b s.2.2.1 s.2.2.2.2.length s.2.2.2.1 s.2.2.2.2)
    (hrs : Disj (foot r.2.2.1 r.2.2.2.1) (foot s.2.2.1 s.2.2.2.1)) (dr : Disj (foot r.2.2.1 r.2.2.2.1) (feetSS a c (bod rs))) (ds : Disj (foot s.2.2.1 s.2.2.2.1) (feetSS a c (bod rs)))
    (o : OwnC w' b a5 (n + 2) c5 44 3 (rs.flatMap msC ++ (msC r ++ msC s))) (g : w.grownBy w' (rowOf a c)) (m : Moved w a c a5 c5) : MsW w' b a5 (n + 2) c5 (rs ++ [r, s]) := by
  refine h.app (rs2 := [r, s]) (fun q hq => ?_) ?_ ?_ (by simpa using o) g m
  · simp only [List.mem_cons, List.not_mem_nil, or_false] at hq
    rcases hq with rfl | rfl
    · exact hr
    · exact hs
  · show ([r.2.2, s.2.2] : List RowD).Pairwise _
    simp only [List.pairwise_cons, List.mem_cons, List.not_mem_nil, or_false, forall_eq, false_implies, implies_true, and_true, List.Pairwise.nil]
    exact hrs
  · have e : rowsF (bod [r, s]) = foot r.2.2.1 r.2.2.2.1 ++ foot s.2.2.1 s.2.2.2.1 := by simp [bod, rowsF]
    rw [e]
    exact Disj.app_l dr ds
theorem app2_feet {w : World} {a c a5 c5} {rs : List MsRow} {r s : MsRow} {X : List Nat} (hX : Disj X (feetSS a c (bod rs))) (hr : Disj X (foot r.2.2.1 r.2.2.2.1)) (hs : Disj X (foot s.2.2.1 s.2.2.2.1)) (m : Moved w a c a5 c5) (hw : ∀ k ∈ X, k < w.heap.size) :
    Disj X (feetSS a5 c5 (bod (rs ++ [r, s]))) := by
  unfold feetSS
  have e : rowsF (bod [r, s]) = foot r.2.2.1 r.2.2.2.1 ++ foot s.2.2.1 s.2.2.2.1 := by simp [bod, rowsF]
  rw [bod_app, rowsF_app, e]
  refine Disj.app (m.disj (fun k hk hk' => hX k hk' (List.mem_append_left _ hk)) hw).symm (Disj.app (fun k hk hk' => hX k hk (List.mem_append_right _ hk')) (Disj.app hr hs))
theorem MsO.app2 {w : World} {b a n c} {D : List MsD} {F : List Nat} (h : MsO w b a n c D F) : ∃ rs : List MsRow, OwnC w b a n c 44 3 (rs.flatMap msC) ∧ rs.map msD = D ∧ ∀ (w' : World) (r s : MsRow) (a5 : Option Addr) (c5 : Nat),
    Own w b r.2.2.1 r.2.2.2.2.length r.2.2.2.1 r.2.2.2.2 → Own w b s.2.2.1 s.2.2.2.2.length s.2.2.2.1 s.2.2.2.2 → Disj (foot r.2.2.1 r.2.2.2.1) (foot s.2.2.1 s.2.2.2.1) → Disj (foot r.2.2.1 r.2.2.2.1) F → Disj (foot s.2.2.1 s.2.2.2.1) F →
    OwnC w' b a5 (n + 2) c5 44 3 (rs.flatMap msC ++ (msC r ++ msC s)) → w.grownBy w' (rowOf a c) → Moved w a c a5 c5 →
    ∃ F', MsO w' b a5 (n + 2) c5 (D ++ [msD r, msD s]) F' ∧ ∀ X : List Nat, Disj X F → Disj X (foot r.2.2.1 r.2.2.2.1) → Disj X (foot s.2.2.1 s.2.2.2.1) → (∀ k ∈ X, k < w.heap.size) → Disj X F' := by
  obtain ⟨rs, h1, rfl, rfl⟩ := h
  refine ⟨rs, h1.out, rfl, fun w' r s a5 c5 hr hs hrs dr ds o g m => ⟨_, ⟨_, h1.app2 hr hs hrs dr ds o g m, by simp, rfl⟩, fun X hX x1 x2 hw => app2_feet hX x1 x2 m hw⟩⟩
end Go.Proofs.YtlmdckcohoddnaaDoor
namespace Go.Proofs.YtlmdckcohoddnaaDoor
open Go.RowKit
theorem MsO.foot {w : World} {b a n c} {D : List MsD} {F : List Nat} (h : MsO w b a n c D F) : ∀ q ∈ Go.Proofs.YtlmdckcohoddnaaDoor.foot a c, q ∈ F := fun q hq => by
  obtain ⟨rs, _, _, rfl⟩ := h
  exact List.mem_append_left _ hq
section
variable {o : Oper} {act : Act} {Q : Exit → Act → World → Prop}
theorem wpList_appM2 (w : World) {ops : Array Oper} {rest : List Oper} (hgd : o.guard = none)
    (s x : Operand) (ho : o.op = .call { callee := .builtin .append, args := #[s, x], argTypes := #[63, 63] })
    (b : Nat) (a : Option Addr) (n c : Nat) (D : List MsD) (F : List Nat) (om : MsO w b a n c D F) (hs : act.eval s = .slice a n c)
    (f1 s1 f2 s2 : Int) (b1 : Option Addr) (c1 : Nat) (l1 : List Int) (b2 : Option Addr) (c2 : Nat) (l2 : List Int)
    (h1 : Own w b b1 l1.length c1 l1) (h2 : Own w b b2 l2.length c2 l2) (h12 : Disj (foot b1 c1) (foot b2 c2)) (d1 : Disj (foot b1 c1) F) (d2 : Disj (foot b2 c2) F)
    (hx : act.eval x = .slice (some ⟨w.heap.size, 0, none⟩) 2 2) (hlen : n + 2 ≤ 1000000) (hbase : b ≤ w.heap.size)
    (h : ∀ a5 c5 w' F', MsO w' b a5 (n + 2) c5 (D ++ [(f1, s1, l1), (f2, s2, l2)]) F' → (∀ X : List Nat, Disj X F → Disj X (foot b1 c1) → Disj X (foot b2 c2) → (∀ k ∈ X, k < w.heap.size) → Disj X F') → Only (foot a c) w w' →
      (∀ X : List Nat, Disj X (foot a c) → (∀ k ∈ X, k < w.heap.size) → Disj X (foot a5 c5)) → wpList Tryd.prog ops Q rest (act.put o.dst (.slice a5 (n + 2) c5)) w') :
    wpList Tryd.prog ops Q (o :: rest) act (w.alloc (.cells #[.int .i64 f1, .int .i64 s1, .slice b1 l1.length c1, .int .i64 f2, .int .i64 s2, .slice b2 l2.length c2] 44)) := by
  obtain ⟨w2, hw2⟩ : ∃ q, q = w.alloc (.cells #[.int .i64 f1, .int .i64 s1, .slice b1 l1.length c1, .int .i64 f2, .int .i64 s2, .slice b2 l2.length c2] 44) := ⟨_, rfl⟩
  have u : Below w.heap.size w w2 := by rw [hw2]; exact (Below.refl _ _).alloc (Nat.le_refl _) _
  have hrow : RowC w2 (some ⟨w.heap.size, 0, none⟩) 2 2 3 (msC (f1, s1, b1, c1, l1) ++ msC (f2, s2, b2, c2, l2)) := by
    rw [hw2]; exact (OwnC.lit w 0 2 44 3 [.int .i64 f1, .int .i64 s1, .slice b1 l1.length c1, .int .i64 f2, .int .i64 s2, .slice b2 l2.length c2] (Nat.zero_le _) rfl (by simp [maxLen])).row
  have hsz := u.size
  have om2 := om.below u
  rw [← hw2]
  clear hw2
  obtain ⟨rs, q1, q2, q3⟩ := om2.app2
  refine wpList_appM hgd s x ho b a n c _ hs q1 _ 2 2 _ hx hrow (fun v hv => ?_) hlen (by omega) fun a5 c5 w' o5 _ g m => ?_
  · simp only [msC, List.cons_append, List.nil_append, List.mem_cons, List.not_mem_nil, or_false] at hv
    rcases hv with rfl | rfl | rfl | rfl | rfl | rfl <;> rfl
  · obtain ⟨F', t1, t2⟩ := q3 w' (f1, s1, b1, c1, l1) (f2, s2, b2, c2, l2) a5 c5 (h1.below u) (h2.below u) h12 d1 d2 o5 g m
    exact h a5 c5 w' F' t1 (fun X x1 x2 x3 hX => t2 X x1 x2 x3 (fun k hk => by have := hX k hk; omega)) ((Only.of_below u).trans (Only.of_grown g)) (fun X hX hX2 => (m.disj hX.symm (fun k hk => by have := hX2 k hk; omega)).symm)
end
end Go.Proofs.YtlmdckcohoddnaaDoor
