/- Lemmas and walks that the claim's proof rests on, part 9. -/
import Derived.Test.YtlmdckcohoddnaaDoorK8
namespace Go.Proofs.YtlmdckcohoddnaaDoor
open Go.RowKit
theorem acc_split (a : Pl) (fr st : Int) (b : List Int) (n s : Nat) (hn : n = b.length) (hs : a.step = s) : accB a fr st b = (decide (fr = 1 - a.party) && (decide (st = s) && ((decide (n = blen s) && allB b 0 (a.P - 1)) && accT a b))) := by
  unfold accB bodyB
  rw [hs, hn]
  rfl
set_option maxHeartbeats 16000000 in
set_option maxRecDepth 100000 in
theorem accepts_0 (a : Pl) (x : PlX) (fr st : Int) (b : Option Addr) (n c : Nat) (body : List Int) (w : World) (h : PlR w x a.shares a.keys a.heard) (hM : Ints w b n c body) (hT : Tbl w) (hN : PlN a) (hs : a.step = 0) :
    Calls Tryd.prog 123 #[.agg #[.int .i64 a.P, .int .i64 a.party, .int .i64 a.input, .int .i64 a.mask, .int .i64 a.delta, .slice x.sa x.sn x.sc, .slice x.ka x.kn x.kc, .int .i64 a.step, .slice x.ha x.hn x.hc, .int .i64 a.status, .int .i64 a.out], .agg #[.int .i64 fr, .int .i64 st, .slice b n c]] w fun e w' => e = .returned (.bool (accB a fr st body)) ∧ Below w.heap.size w w' := by
  have hp1 := hN.p1
  have hp2 := hN.p2
  have hpa := hN.pa
  have hpr := hN.pr
  have hn := hM.len
  have hnl := hM.le
  have HA := acc_split a fr st body n 0 hn hs
  have hTT : accT a body = (true) := by
    unfold accT
    rw [if_pos hs]
  rw [hTT] at HA
  clear hTT
  have C5 := fun (W : World) (n : Nat) (hh : Ints W b n c body) => (show Calls Tryd.prog 59 #[.int .i64 a.P, .slice b n c] W fun e w' => e = .returned (.bool (allB body 0 (a.P - 1))) ∧ Below W.heap.size W w' by have := areElements_any a.P b n c body W hh; rw [elsB_of _ hpr] at this; exact this)
  have F5 : allB body 0 (a.P - 1) = true → ∀ x ∈ body, 0 ≤ x ∧ x ≤ a.P - 1 := fun h => (allB_iff _ _ _).1 h
  generalize accB a fr st body = RR at *
  clear hN
  obtain ⟨P, pa, ip, mk, de, S, K, st0, H, ss, ou⟩ := a
  obtain ⟨x_sa, x_sn, x_sc, x_ka, x_kn, x_kc, x_ha, x_hn, x_hc⟩ := x
  dsimp only at *
  subst hs
  replace C5 := Lib.hid C5
  replace F5 := Lib.hid F5
  have LH := Lib.hid h
  have LM := Lib.hid hM
  have LX := Lib.hid hT
  have LN := Lib.hid hn
  clear h hM hT hn
  generalize hb1 : decide (fr = 1 - pa) = b1 at HA
  generalize hb2 : decide (st = ((0 : Nat) : Int)) = b2 at HA
  generalize hb3 : decide (n = blen 0) = b3 at HA
  generalize allB body 0 (P - 1) = b4 at *
  have HB1 := Lib.hid hb1
  have HB2 := Lib.hid hb2
  have HB3 := Lib.hid hb3
  replace HA := Lib.hid HA
  clear hb1 hb2 hb3
  have t1 : IntKind.i64.wrap (1 - pa) = 1 - pa := IntWalk.i64_in _ (by omega)
  cases b1
  · have d1 : ((fr != 1 - pa) : Bool) = true := by have := HB1.out; simp at this; simp; omega
    go_enter Tryd.func123, Tryd.ntmps123
    go_upto_if 37 with fail
    refine Exists.elim (Blk.new_ w (b := w.heap.size) rfl 31 #[.int .i64 P, .int .i64 pa, .int .i64 ip, .int .i64 mk, .int .i64 de, .slice x_sa x_sn x_sc, .slice x_ka x_kn x_kc, .int .i64 0, .slice x_ha x_hn x_hc, .int .i64 ss, .int .i64 ou]) (fun w1_a0' q => ?_)
    rw [q.1]; have B_a := q.2.1; have s_w1_a0' := q.2.2.1; have u_w1_a0' := q.2.2.2; clear q
    refine Exists.elim (Blk.new_ w1_a0' (b := w.heap.size + 1) s_w1_a0' 44 #[.int .i64 fr, .int .i64 st, .slice b n c]) (fun w1' q => ?_)
    rw [q.1]; have B_m := q.2.1; have s_w1' := q.2.2.1; have u_w1' := q.2.2.2; clear q
    replace B_a := (B_a.below u_w1')
    have U := (u_w1_a0'.trans (u_w1'.mono u_w1_a0'.size))
    have S_w1' : w.heap.size + 2 ≤ w1'.heap.size := Nat.le_of_eq s_w1'.symm
    have V_w1' := (Below.refl w.heap.size w).trans (U.mono ((Below.refl w.heap.size w)).size)
    clear u_w1_a0' u_w1' s_w1_a0' s_w1' U
    have e_a_0 := B_a.a11_0
    have e_a_1 := B_a.a11_1
    have e_a_2 := B_a.a11_2
    have e_a_3 := B_a.a11_3
    have e_a_4 := B_a.a11_4
    have e_a_5 := B_a.a11_5
    have e_a_6 := B_a.a11_6
    have e_a_7 := B_a.a11_7
    have e_a_8 := B_a.a11_8
    have e_a_9 := B_a.a11_9
    have e_a_10 := B_a.a11_10
    have e_m_0 := B_m.a3_0
    have e_m_1 := B_m.a3_1
    have e_m_2 := B_m.a3_2
    have tb : w1'.cell? ⟨0, 0, none⟩ = some (.int .i64 1) := (LX.out.below V_w1').at 0 (by decide)
    go_wp2
    go_quiet (fail)
    go_wp2
    go_ret
    exact ⟨ret_bool (by rw [HA.out]; rfl), below_drewN V_w1' _⟩
  obtain rfl : fr = 1 - pa := by simpa using HB1.out
  cases b2
  · have d2 : ((st != 0) : Bool) = true := by have := HB2.out; simp at this; simp; omega
    go_enter Tryd.func123, Tryd.ntmps123
    go_upto_if 37 with fail
    refine Exists.elim (Blk.new_ w (b := w.heap.size) rfl 31 #[.int .i64 P, .int .i64 pa, .int .i64 ip, .int .i64 mk, .int .i64 de, .slice x_sa x_sn x_sc, .slice x_ka x_kn x_kc, .int .i64 0, .slice x_ha x_hn x_hc, .int .i64 ss, .int .i64 ou]) (fun w1_a0' q => ?_)
    rw [q.1]; have B_a := q.2.1; have s_w1_a0' := q.2.2.1; have u_w1_a0' := q.2.2.2; clear q
    refine Exists.elim (Blk.new_ w1_a0' (b := w.heap.size + 1) s_w1_a0' 44 #[.int .i64 (1 - pa), .int .i64 st, .slice b n c]) (fun w1' q => ?_)
    rw [q.1]; have B_m := q.2.1; have s_w1' := q.2.2.1; have u_w1' := q.2.2.2; clear q
    replace B_a := (B_a.below u_w1')
    have U := (u_w1_a0'.trans (u_w1'.mono u_w1_a0'.size))
    have S_w1' : w.heap.size + 2 ≤ w1'.heap.size := Nat.le_of_eq s_w1'.symm
    have V_w1' := (Below.refl w.heap.size w).trans (U.mono ((Below.refl w.heap.size w)).size)
    clear u_w1_a0' u_w1' s_w1_a0' s_w1' U
    have e_a_0 := B_a.a11_0
    have e_a_1 := B_a.a11_1
    have e_a_2 := B_a.a11_2
    have e_a_3 := B_a.a11_3
    have e_a_4 := B_a.a11_4
    have e_a_5 := B_a.a11_5
    have e_a_6 := B_a.a11_6
    have e_a_7 := B_a.a11_7
    have e_a_8 := B_a.a11_8
    have e_a_9 := B_a.a11_9
    have e_a_10 := B_a.a11_10
    have e_m_0 := B_m.a3_0
    have e_m_1 := B_m.a3_1
    have e_m_2 := B_m.a3_2
    have tb : w1'.cell? ⟨0, 0, none⟩ = some (.int .i64 1) := (LX.out.below V_w1').at 0 (by decide)
    go_wp2
    go_quiet (fail)
    go_wp2
    go_ret
    exact ⟨ret_bool (by rw [HA.out]; rfl), below_drewN V_w1' _⟩
  obtain rfl : st = 0 := by simpa using HB2.out
  cases b3
  · have d3 : (((n : Int) != 1) : Bool) = true := by have := HB3.out; simp [blen] at this; simp; omega
    go_enter Tryd.func123, Tryd.ntmps123
    go_upto_if 37 with fail
    refine Exists.elim (Blk.new_ w (b := w.heap.size) rfl 31 #[.int .i64 P, .int .i64 pa, .int .i64 ip, .int .i64 mk, .int .i64 de, .slice x_sa x_sn x_sc, .slice x_ka x_kn x_kc, .int .i64 0, .slice x_ha x_hn x_hc, .int .i64 ss, .int .i64 ou]) (fun w1_a0' q => ?_)
    rw [q.1]; have B_a := q.2.1; have s_w1_a0' := q.2.2.1; have u_w1_a0' := q.2.2.2; clear q
    refine Exists.elim (Blk.new_ w1_a0' (b := w.heap.size + 1) s_w1_a0' 44 #[.int .i64 (1 - pa), .int .i64 0, .slice b n c]) (fun w1' q => ?_)
    rw [q.1]; have B_m := q.2.1; have s_w1' := q.2.2.1; have u_w1' := q.2.2.2; clear q
    replace B_a := (B_a.below u_w1')
    have U := (u_w1_a0'.trans (u_w1'.mono u_w1_a0'.size))
    have S_w1' : w.heap.size + 2 ≤ w1'.heap.size := Nat.le_of_eq s_w1'.symm
    have V_w1' := (Below.refl w.heap.size w).trans (U.mono ((Below.refl w.heap.size w)).size)
    clear u_w1_a0' u_w1' s_w1_a0' s_w1' U
    have e_a_0 := B_a.a11_0
    have e_a_1 := B_a.a11_1
    have e_a_2 := B_a.a11_2
    have e_a_3 := B_a.a11_3
    have e_a_4 := B_a.a11_4
    have e_a_5 := B_a.a11_5
    have e_a_6 := B_a.a11_6
    have e_a_7 := B_a.a11_7
    have e_a_8 := B_a.a11_8
    have e_a_9 := B_a.a11_9
    have e_a_10 := B_a.a11_10
    have e_m_0 := B_m.a3_0
    have e_m_1 := B_m.a3_1
    have e_m_2 := B_m.a3_2
    have tb : w1'.cell? ⟨0, 0, none⟩ = some (.int .i64 1) := (LX.out.below V_w1').at 0 (by decide)
    go_wp2
    go_quiet (fail)
    go_wp2
    go_ret
    exact ⟨ret_bool (by rw [HA.out]; rfl), below_drewN V_w1' _⟩
  obtain rfl : n = 1 := by have := HB3.out; simpa [blen] using this
  clear HB1 HB2 HB3 hnl
  go_enter Tryd.func123, Tryd.ntmps123
  go_upto_if 37 with fail
  refine Exists.elim (Blk.new_ w (b := w.heap.size) rfl 31 #[.int .i64 P, .int .i64 pa, .int .i64 ip, .int .i64 mk, .int .i64 de, .slice x_sa x_sn x_sc, .slice x_ka x_kn x_kc, .int .i64 0, .slice x_ha x_hn x_hc, .int .i64 ss, .int .i64 ou]) (fun w1_a0' q => ?_)
  rw [q.1]; have B_a := q.2.1; have s_w1_a0' := q.2.2.1; have u_w1_a0' := q.2.2.2; clear q
  refine Exists.elim (Blk.new_ w1_a0' (b := w.heap.size + 1) s_w1_a0' 44 #[.int .i64 (1 - pa), .int .i64 0, .slice b 1 c]) (fun w1' q => ?_)
  rw [q.1]; have B_m := q.2.1; have s_w1' := q.2.2.1; have u_w1' := q.2.2.2; clear q
  replace B_a := (B_a.below u_w1')
  have U := (u_w1_a0'.trans (u_w1'.mono u_w1_a0'.size))
  have S_w1' : w.heap.size + 2 ≤ w1'.heap.size := Nat.le_of_eq s_w1'.symm
  have V_w1' := (Below.refl w.heap.size w).trans (U.mono ((Below.refl w.heap.size w)).size)
  clear u_w1_a0' u_w1' s_w1_a0' s_w1' U
  have e_a_0 := B_a.a11_0
  have e_a_1 := B_a.a11_1
  have e_a_2 := B_a.a11_2
  have e_a_3 := B_a.a11_3
  have e_a_4 := B_a.a11_4
  have e_a_5 := B_a.a11_5
  have e_a_6 := B_a.a11_6
  have e_a_7 := B_a.a11_7
  have e_a_8 := B_a.a11_8
  have e_a_9 := B_a.a11_9
  have e_a_10 := B_a.a11_10
  have e_m_0 := B_m.a3_0
  have e_m_1 := B_m.a3_1
  have e_m_2 := B_m.a3_2
  have tb : w1'.cell? ⟨0, 0, none⟩ = some (.int .i64 1) := (LX.out.below V_w1').at 0 (by decide)
  have hR := (LM.out.below V_w1').drew
  go_wp2
  go_region_held3 (fun W => W.cell? ⟨w.heap.size, 0, none⟩ = some (.int .i64 P) ∧ W.cell? ⟨w.heap.size, 1, none⟩ = some (.int .i64 pa) ∧ W.cell? ⟨w.heap.size, 2, none⟩ = some (.int .i64 ip) ∧ W.cell? ⟨w.heap.size, 3, none⟩ = some (.int .i64 mk) ∧ W.cell? ⟨w.heap.size, 4, none⟩ = some (.int .i64 de) ∧ W.cell? ⟨w.heap.size, 5, none⟩ = some (.slice x_sa x_sn x_sc) ∧ W.cell? ⟨w.heap.size, 6, none⟩ = some (.slice x_ka x_kn x_kc) ∧ W.cell? ⟨w.heap.size, 7, none⟩ = some (.int .i64 0) ∧ W.cell? ⟨w.heap.size, 8, none⟩ = some (.slice x_ha x_hn x_hc) ∧ W.cell? ⟨w.heap.size, 9, none⟩ = some (.int .i64 ss) ∧ W.cell? ⟨w.heap.size, 10, none⟩ = some (.int .i64 ou) ∧ W.cell? ⟨w.heap.size + 1, 0, none⟩ = some (.int .i64 (1 - pa)) ∧ W.cell? ⟨w.heap.size + 1, 1, none⟩ = some (.int .i64 0) ∧ W.cell? ⟨w.heap.size + 1, 2, none⟩ = some (.slice b 1 c) ∧ W.cell? ⟨0, 0, none⟩ = some (.int .i64 1))
    (first | exact ⟨keepC u e_a_0, keepC u e_a_1, keepC u e_a_2, keepC u e_a_3, keepC u e_a_4, keepC u e_a_5, keepC u e_a_6, keepC u e_a_7, keepC u e_a_8, keepC u e_a_9, keepC u e_a_10, keepC u e_m_0, keepC u e_m_1, keepC u e_m_2, keepC u tb⟩ | exact ⟨e_a, e_m, tb⟩ | go_keep)
    (first | (go_at_call 59; refine (C5.out _ _ hR).mono ?_; rintro e wz0 ⟨rfl, u⟩))
  have u9 : Below w1'.heap.size w1' wz0 := (Below.refl _ _).drew.trans u
  clear tb u hR
  clear e_a_0 e_a_1 e_a_2 e_a_3 e_a_4 e_a_5 e_a_6 e_a_7 e_a_8 e_a_9 e_a_10 e_m_0 e_m_1 e_m_2
  replace B_a := B_a.below u9
  replace B_m := B_m.below u9
  have S_wz0 := u9.size
  have V_wz0 : Below w.heap.size w wz0 := V_w1'.trans (u9.mono V_w1'.size)
  clear V_w1'
  clear u9
  cases b4
  · go_wp2
    go_ret
    exact ⟨ret_bool (by rw [HA.out]; rfl), V_wz0⟩
  have rB := F5.out rfl
  have e_a_0 := B_a.a11_0
  have e_a_1 := B_a.a11_1
  have e_a_2 := B_a.a11_2
  have e_a_3 := B_a.a11_3
  have e_a_4 := B_a.a11_4
  have e_a_5 := B_a.a11_5
  have e_a_6 := B_a.a11_6
  have e_a_7 := B_a.a11_7
  have e_a_8 := B_a.a11_8
  have e_a_9 := B_a.a11_9
  have e_a_10 := B_a.a11_10
  go_wp2
  go_ret
  exact ⟨ret_bool (by rw [HA.out]; rfl), V_wz0⟩
set_option maxHeartbeats 16000000 in
set_option maxRecDepth 100000 in
theorem accepts_1 (a : Pl) (x : PlX) (fr st : Int) (b : Option Addr) (n c : Nat) (body : List Int) (w : World) (h : PlR w x a.shares a.keys a.heard) (hM : Ints w b n c body) (hT : Tbl w) (hN : PlN a) (hs : a.step = 1) :
    Calls Tryd.prog 123 #[.agg #[.int .i64 a.P, .int .i64 a.party, .int .i64 a.input, .int .i64 a.mask, .int .i64 a.delta, .slice x.sa x.sn x.sc, .slice x.ka x.kn x.kc, .int .i64 a.step, .slice x.ha x.hn x.hc, .int .i64 a.status, .int .i64 a.out], .agg #[.int .i64 fr, .int .i64 st, .slice b n c]] w fun e w' => e = .returned (.bool (accB a fr st body)) ∧ Below w.heap.size w w' := by
  have hp1 := hN.p1
  have hp2 := hN.p2
  have hpa := hN.pa
  have hpr := hN.pr
  have hn := hM.len
  have hnl := hM.le
  have hde := hN.de
  have q0 := f0_rng hN (by omega)
  have q1 := f1_rng hN (by omega)
  have CT := fun (W : World) (h2 : PlR W x a.shares a.keys a.heard) => terms_1s a.step hs a x W h2 hN (by omega)
  have CK0 := fun (W : World) (h2 : PlR W x a.shares a.keys a.heard) => keyOf_any a x (1) (0) (-1) (0) (0) (f0 a) W h2 hN (fun i _ => by unfold w5; split <;> (try split) <;> (try split) <;> (try split) <;> omega) (by omega)
  have rk0 : 0 ≤ keyT a (1) (0) (-1) (0) (0) (f0 a) ∧ keyT a (1) (0) (-1) (0) (0) (f0 a) ≤ a.P - 1 := cmb_rng _ _ _ _ _ _ _ _ (by omega)
  have CK1 := fun (W : World) (h2 : PlR W x a.shares a.keys a.heard) => keyOf_any a x (0) (1) (0) (-1) (0) (f1 a) W h2 hN (fun i _ => by unfold w5; split <;> (try split) <;> (try split) <;> (try split) <;> omega) (by omega)
  have rk1 : 0 ≤ keyT a (0) (1) (0) (-1) (0) (f1 a) ∧ keyT a (0) (1) (0) (-1) (0) (f1 a) ≤ a.P - 1 := cmb_rng _ _ _ _ _ _ _ _ (by omega)
  have HA := acc_split a fr st body n 1 hn hs
  have hTT : accT a body = (holdB a.P a.delta (keyT a (1) (0) (-1) (0) (0) (f0 a)) (body.getD 0 0) (body.getD 1 0) && holdB a.P a.delta (keyT a (0) (1) (0) (-1) (0) (f1 a)) (body.getD 2 0) (body.getD 3 0)) := by
    unfold accT
    rw [if_neg (by omega), if_pos hs]
  rw [hTT] at HA
  clear hTT
  have C5 := fun (W : World) (n : Nat) (hh : Ints W b n c body) => (show Calls Tryd.prog 59 #[.int .i64 a.P, .slice b n c] W fun e w' => e = .returned (.bool (allB body 0 (a.P - 1))) ∧ Below W.heap.size W w' by have := areElements_any a.P b n c body W hh; rw [elsB_of _ hpr] at this; exact this)
  have F5 : allB body 0 (a.P - 1) = true → ∀ x ∈ body, 0 ≤ x ∧ x ≤ a.P - 1 := fun h => (allB_iff _ _ _).1 h
  have CH0 := fun (W : World) (v t : Int) (hv : 0 ≤ v ∧ v ≤ a.P - 1) (ht : 0 ≤ t ∧ t ≤ a.P - 1) => holds_any a.P a.delta (keyT a (1) (0) (-1) (0) (0) (f0 a)) v t W (by omega) (by omega) (by omega) rk0 hv ht
  have CH1 := fun (W : World) (v t : Int) (hv : 0 ≤ v ∧ v ≤ a.P - 1) (ht : 0 ≤ t ∧ t ≤ a.P - 1) => holds_any a.P a.delta (keyT a (0) (1) (0) (-1) (0) (f1 a)) v t W (by omega) (by omega) (by omega) rk1 hv ht
  obtain ⟨kk0, hkk0⟩ : ∃ z, z = (keyT a (1) (0) (-1) (0) (0) (f0 a)) := ⟨_, rfl⟩
  rw [← hkk0] at HA CK0 CH0
  clear rk0 hkk0
  obtain ⟨kk1, hkk1⟩ : ∃ z, z = (keyT a (0) (1) (0) (-1) (0) (f1 a)) := ⟨_, rfl⟩
  rw [← hkk1] at HA CK1 CH1
  clear rk1 hkk1
  obtain ⟨F0, hF0⟩ : ∃ z, z = f0 a := ⟨_, rfl⟩
  obtain ⟨F1, hF1⟩ : ∃ z, z = f1 a := ⟨_, rfl⟩
  unfold tm1 at CT
  rw [← hF0] at CT CK0
  rw [← hF1] at CT CK1
  clear hF0 hF1 q0 q1
  generalize accB a fr st body = RR at *
  clear hN
  obtain ⟨P, pa, ip, mk, de, S, K, st0, H, ss, ou⟩ := a
  obtain ⟨x_sa, x_sn, x_sc, x_ka, x_kn, x_kc, x_ha, x_hn, x_hc⟩ := x
  dsimp only at *
  subst hs
  replace CT := Lib.hid CT
  replace C5 := Lib.hid C5
  replace F5 := Lib.hid F5
  replace CK0 := Lib.hid CK0
  replace CK1 := Lib.hid CK1
  replace CH0 := Lib.hid CH0
  replace CH1 := Lib.hid CH1
  have LH := Lib.hid h
  have LM := Lib.hid hM
  have LX := Lib.hid hT
  have LN := Lib.hid hn
  clear h hM hT hn
  generalize hb1 : decide (fr = 1 - pa) = b1 at HA
  generalize hb2 : decide (st = ((1 : Nat) : Int)) = b2 at HA
  generalize hb3 : decide (n = blen 1) = b3 at HA
  generalize allB body 0 (P - 1) = b4 at *
  have HB1 := Lib.hid hb1
  have HB2 := Lib.hid hb2
  have HB3 := Lib.hid hb3
  replace HA := Lib.hid HA
  clear hb1 hb2 hb3
  have t1 : IntKind.i64.wrap (1 - pa) = 1 - pa := IntWalk.i64_in _ (by omega)
  cases b1
  · have d1 : ((fr != 1 - pa) : Bool) = true := by have := HB1.out; simp at this; simp; omega
    go_enter Tryd.func123, Tryd.ntmps123
    go_upto_if 37 with fail
    refine Exists.elim (Blk.new_ w (b := w.heap.size) rfl 31 #[.int .i64 P, .int .i64 pa, .int .i64 ip, .int .i64 mk, .int .i64 de, .slice x_sa x_sn x_sc, .slice x_ka x_kn x_kc, .int .i64 1, .slice x_ha x_hn x_hc, .int .i64 ss, .int .i64 ou]) (fun w1_a0' q => ?_)
    rw [q.1]; have B_a := q.2.1; have s_w1_a0' := q.2.2.1; have u_w1_a0' := q.2.2.2; clear q
    refine Exists.elim (Blk.new_ w1_a0' (b := w.heap.size + 1) s_w1_a0' 44 #[.int .i64 fr, .int .i64 st, .slice b n c]) (fun w1' q => ?_)
    rw [q.1]; have B_m := q.2.1; have s_w1' := q.2.2.1; have u_w1' := q.2.2.2; clear q
    replace B_a := (B_a.below u_w1')
    have U := (u_w1_a0'.trans (u_w1'.mono u_w1_a0'.size))
    have S_w1' : w.heap.size + 2 ≤ w1'.heap.size := Nat.le_of_eq s_w1'.symm
    have V_w1' := (Below.refl w.heap.size w).trans (U.mono ((Below.refl w.heap.size w)).size)
    clear u_w1_a0' u_w1' s_w1_a0' s_w1' U
    have e_a_0 := B_a.a11_0
    have e_a_1 := B_a.a11_1
    have e_a_2 := B_a.a11_2
    have e_a_3 := B_a.a11_3
    have e_a_4 := B_a.a11_4
    have e_a_5 := B_a.a11_5
    have e_a_6 := B_a.a11_6
    have e_a_7 := B_a.a11_7
    have e_a_8 := B_a.a11_8
    have e_a_9 := B_a.a11_9
    have e_a_10 := B_a.a11_10
    have e_m_0 := B_m.a3_0
    have e_m_1 := B_m.a3_1
    have e_m_2 := B_m.a3_2
    have tb : w1'.cell? ⟨0, 1, none⟩ = some (.int .i64 4) := (LX.out.below V_w1').at 1 (by decide)
    go_wp2
    go_quiet (fail)
    go_wp2
    go_ret
    exact ⟨ret_bool (by rw [HA.out]; rfl), below_drewN V_w1' _⟩
  obtain rfl : fr = 1 - pa := by simpa using HB1.out
  cases b2
  · have d2 : ((st != 1) : Bool) = true := by have := HB2.out; simp at this; simp; omega
    go_enter Tryd.func123, Tryd.ntmps123
    go_upto_if 37 with fail
    refine Exists.elim (Blk.new_ w (b := w.heap.size) rfl 31 #[.int .i64 P, .int .i64 pa, .int .i64 ip, .int .i64 mk, .int .i64 de, .slice x_sa x_sn x_sc, .slice x_ka x_kn x_kc, .int .i64 1, .slice x_ha x_hn x_hc, .int .i64 ss, .int .i64 ou]) (fun w1_a0' q => ?_)
    rw [q.1]; have B_a := q.2.1; have s_w1_a0' := q.2.2.1; have u_w1_a0' := q.2.2.2; clear q
    refine Exists.elim (Blk.new_ w1_a0' (b := w.heap.size + 1) s_w1_a0' 44 #[.int .i64 (1 - pa), .int .i64 st, .slice b n c]) (fun w1' q => ?_)
    rw [q.1]; have B_m := q.2.1; have s_w1' := q.2.2.1; have u_w1' := q.2.2.2; clear q
    replace B_a := (B_a.below u_w1')
    have U := (u_w1_a0'.trans (u_w1'.mono u_w1_a0'.size))
    have S_w1' : w.heap.size + 2 ≤ w1'.heap.size := Nat.le_of_eq s_w1'.symm
    have V_w1' := (Below.refl w.heap.size w).trans (U.mono ((Below.refl w.heap.size w)).size)
    clear u_w1_a0' u_w1' s_w1_a0' s_w1' U
    have e_a_0 := B_a.a11_0
    have e_a_1 := B_a.a11_1
    have e_a_2 := B_a.a11_2
    have e_a_3 := B_a.a11_3
    have e_a_4 := B_a.a11_4
    have e_a_5 := B_a.a11_5
    have e_a_6 := B_a.a11_6
    have e_a_7 := B_a.a11_7
    have e_a_8 := B_a.a11_8
    have e_a_9 := B_a.a11_9
    have e_a_10 := B_a.a11_10
    have e_m_0 := B_m.a3_0
    have e_m_1 := B_m.a3_1
    have e_m_2 := B_m.a3_2
    have tb : w1'.cell? ⟨0, 1, none⟩ = some (.int .i64 4) := (LX.out.below V_w1').at 1 (by decide)
    go_wp2
    go_quiet (fail)
    go_wp2
    go_ret
    exact ⟨ret_bool (by rw [HA.out]; rfl), below_drewN V_w1' _⟩
  obtain rfl : st = 1 := by simpa using HB2.out
  cases b3
  · have d3 : (((n : Int) != 4) : Bool) = true := by have := HB3.out; simp [blen] at this; simp; omega
    go_enter Tryd.func123, Tryd.ntmps123
    go_upto_if 37 with fail
    refine Exists.elim (Blk.new_ w (b := w.heap.size) rfl 31 #[.int .i64 P, .int .i64 pa, .int .i64 ip, .int .i64 mk, .int .i64 de, .slice x_sa x_sn x_sc, .slice x_ka x_kn x_kc, .int .i64 1, .slice x_ha x_hn x_hc, .int .i64 ss, .int .i64 ou]) (fun w1_a0' q => ?_)
    rw [q.1]; have B_a := q.2.1; have s_w1_a0' := q.2.2.1; have u_w1_a0' := q.2.2.2; clear q
    refine Exists.elim (Blk.new_ w1_a0' (b := w.heap.size + 1) s_w1_a0' 44 #[.int .i64 (1 - pa), .int .i64 1, .slice b n c]) (fun w1' q => ?_)
    rw [q.1]; have B_m := q.2.1; have s_w1' := q.2.2.1; have u_w1' := q.2.2.2; clear q
    replace B_a := (B_a.below u_w1')
    have U := (u_w1_a0'.trans (u_w1'.mono u_w1_a0'.size))
    have S_w1' : w.heap.size + 2 ≤ w1'.heap.size := Nat.le_of_eq s_w1'.symm
    have V_w1' := (Below.refl w.heap.size w).trans (U.mono ((Below.refl w.heap.size w)).size)
    clear u_w1_a0' u_w1' s_w1_a0' s_w1' U
    have e_a_0 := B_a.a11_0
    have e_a_1 := B_a.a11_1
    have e_a_2 := B_a.a11_2
    have e_a_3 := B_a.a11_3
    have e_a_4 := B_a.a11_4
    have e_a_5 := B_a.a11_5
    have e_a_6 := B_a.a11_6
    have e_a_7 := B_a.a11_7
    have e_a_8 := B_a.a11_8
    have e_a_9 := B_a.a11_9
    have e_a_10 := B_a.a11_10
    have e_m_0 := B_m.a3_0
    have e_m_1 := B_m.a3_1
    have e_m_2 := B_m.a3_2
    have tb : w1'.cell? ⟨0, 1, none⟩ = some (.int .i64 4) := (LX.out.below V_w1').at 1 (by decide)
    go_wp2
    go_quiet (fail)
    go_wp2
    go_ret
    exact ⟨ret_bool (by rw [HA.out]; rfl), below_drewN V_w1' _⟩
  obtain rfl : n = 4 := by have := HB3.out; simpa [blen] using this
  clear HB1 HB2 HB3 hnl
  obtain ⟨gb, ob, rfl, hbc⟩ := LM.out.cells (by omega)
  have y0 := hbc 0 (by omega)
  have y1 := hbc 1 (by omega)
  have y2 := hbc 2 (by omega)
  have y3 := hbc 3 (by omega)
  rw [Nat.add_zero] at y0
  clear hbc
  generalize hv0 : body.getD 0 0 = v0 at *
  generalize hv1 : body.getD 1 0 = v1 at *
  generalize hv2 : body.getD 2 0 = v2 at *
  generalize hv3 : body.getD 3 0 = v3 at *
  replace hv0 := Lib.hid hv0
  replace hv1 := Lib.hid hv1
  replace hv2 := Lib.hid hv2
  replace hv3 := Lib.hid hv3
  go_enter Tryd.func123, Tryd.ntmps123
  go_upto_if 37 with fail
  refine Exists.elim (Blk.new_ w (b := w.heap.size) rfl 31 #[.int .i64 P, .int .i64 pa, .int .i64 ip, .int .i64 mk, .int .i64 de, .slice x_sa x_sn x_sc, .slice x_ka x_kn x_kc, .int .i64 1, .slice x_ha x_hn x_hc, .int .i64 ss, .int .i64 ou]) (fun w1_a0' q => ?_)
  rw [q.1]; have B_a := q.2.1; have s_w1_a0' := q.2.2.1; have u_w1_a0' := q.2.2.2; clear q
  refine Exists.elim (Blk.new_ w1_a0' (b := w.heap.size + 1) s_w1_a0' 44 #[.int .i64 (1 - pa), .int .i64 1, .slice (some ⟨gb, ob, none⟩) 4 c]) (fun w1' q => ?_)
  rw [q.1]; have B_m := q.2.1; have s_w1' := q.2.2.1; have u_w1' := q.2.2.2; clear q
  replace B_a := (B_a.below u_w1')
  have U := (u_w1_a0'.trans (u_w1'.mono u_w1_a0'.size))
  have S_w1' : w.heap.size + 2 ≤ w1'.heap.size := Nat.le_of_eq s_w1'.symm
  have V_w1' := (Below.refl w.heap.size w).trans (U.mono ((Below.refl w.heap.size w)).size)
  clear u_w1_a0' u_w1' s_w1_a0' s_w1' U
  have e_a_0 := B_a.a11_0
  have e_a_1 := B_a.a11_1
  have e_a_2 := B_a.a11_2
  have e_a_3 := B_a.a11_3
  have e_a_4 := B_a.a11_4
  have e_a_5 := B_a.a11_5
  have e_a_6 := B_a.a11_6
  have e_a_7 := B_a.a11_7
  have e_a_8 := B_a.a11_8
  have e_a_9 := B_a.a11_9
  have e_a_10 := B_a.a11_10
  have e_m_0 := B_m.a3_0
  have e_m_1 := B_m.a3_1
  have e_m_2 := B_m.a3_2
  have tb : w1'.cell? ⟨0, 1, none⟩ = some (.int .i64 4) := (LX.out.below V_w1').at 1 (by decide)
  have hR := (LM.out.below V_w1').drew
  go_wp2
  go_region_held3 (fun W => W.cell? ⟨w.heap.size, 0, none⟩ = some (.int .i64 P) ∧ W.cell? ⟨w.heap.size, 1, none⟩ = some (.int .i64 pa) ∧ W.cell? ⟨w.heap.size, 2, none⟩ = some (.int .i64 ip) ∧ W.cell? ⟨w.heap.size, 3, none⟩ = some (.int .i64 mk) ∧ W.cell? ⟨w.heap.size, 4, none⟩ = some (.int .i64 de) ∧ W.cell? ⟨w.heap.size, 5, none⟩ = some (.slice x_sa x_sn x_sc) ∧ W.cell? ⟨w.heap.size, 6, none⟩ = some (.slice x_ka x_kn x_kc) ∧ W.cell? ⟨w.heap.size, 7, none⟩ = some (.int .i64 1) ∧ W.cell? ⟨w.heap.size, 8, none⟩ = some (.slice x_ha x_hn x_hc) ∧ W.cell? ⟨w.heap.size, 9, none⟩ = some (.int .i64 ss) ∧ W.cell? ⟨w.heap.size, 10, none⟩ = some (.int .i64 ou) ∧ W.cell? ⟨w.heap.size + 1, 0, none⟩ = some (.int .i64 (1 - pa)) ∧ W.cell? ⟨w.heap.size + 1, 1, none⟩ = some (.int .i64 1) ∧ W.cell? ⟨w.heap.size + 1, 2, none⟩ = some (.slice (some ⟨gb, ob, none⟩) 4 c) ∧ W.cell? ⟨0, 1, none⟩ = some (.int .i64 4))
    (first | exact ⟨keepC u e_a_0, keepC u e_a_1, keepC u e_a_2, keepC u e_a_3, keepC u e_a_4, keepC u e_a_5, keepC u e_a_6, keepC u e_a_7, keepC u e_a_8, keepC u e_a_9, keepC u e_a_10, keepC u e_m_0, keepC u e_m_1, keepC u e_m_2, keepC u tb⟩ | exact ⟨e_a, e_m, tb⟩ | go_keep)
    (first | (go_at_call 59; refine (C5.out _ _ hR).mono ?_; rintro e wz0 ⟨rfl, u⟩))
  have u9 : Below w1'.heap.size w1' wz0 := (Below.refl _ _).drew.trans u
  clear tb u hR
  clear e_a_0 e_a_1 e_a_2 e_a_3 e_a_4 e_a_5 e_a_6 e_a_7 e_a_8 e_a_9 e_a_10 e_m_0 e_m_1 e_m_2
  replace B_a := B_a.below u9
  replace B_m := B_m.below u9
  have S_wz0 := u9.size
  have V_wz0 : Below w.heap.size w wz0 := V_w1'.trans (u9.mono V_w1'.size)
  clear V_w1'
  clear u9
  cases b4
  · go_wp2
    go_ret
    exact ⟨ret_bool (by rw [HA.out]; rfl), V_wz0⟩
  have rB := F5.out rfl
  have r0 := rB _ (getD_mem body 0 (by rw [← LN.out]; omega))
  rw [hv0.out] at r0
  clear hv0
  have r1 := rB _ (getD_mem body 1 (by rw [← LN.out]; omega))
  rw [hv1.out] at r1
  clear hv1
  have r2 := rB _ (getD_mem body 2 (by rw [← LN.out]; omega))
  rw [hv2.out] at r2
  clear hv2
  have r3 := rB _ (getD_mem body 3 (by rw [← LN.out]; omega))
  rw [hv3.out] at r3
  clear hv3
  clear rB
  have CG0 := Lib.hid (fun (W : World) => CH0.out W v0 v1 r0 r1)
  clear CH0
  generalize holdB P de kk0 v0 v1 = hb0 at *
  have CG1 := Lib.hid (fun (W : World) => CH1.out W v2 v3 r2 r3)
  clear CH1
  generalize holdB P de kk1 v2 v3 = hb1 at *
  have sw0 : IntKind.i64.wrap 0 = 0 := IntWalk.i64_in _ (by omega)
  have sw1 : IntKind.i64.wrap 1 = 1 := IntWalk.i64_in _ (by omega)
  have sw2 : IntKind.i64.wrap 2 = 2 := IntWalk.i64_in _ (by omega)
  have sw3 : IntKind.i64.wrap 3 = 3 := IntWalk.i64_in _ (by omega)
  have e_a_0 := B_a.a11_0
  have e_a_1 := B_a.a11_1
  have e_a_2 := B_a.a11_2
  have e_a_3 := B_a.a11_3
  have e_a_4 := B_a.a11_4
  have e_a_5 := B_a.a11_5
  have e_a_6 := B_a.a11_6
  have e_a_7 := B_a.a11_7
  have e_a_8 := B_a.a11_8
  have e_a_9 := B_a.a11_9
  have e_a_10 := B_a.a11_10
  go_wp2_with fail
  clear e_a_0 e_a_1 e_a_2 e_a_3 e_a_4 e_a_5 e_a_6 e_a_7 e_a_8 e_a_9 e_a_10
  refine (CT.out _ (LH.out.below V_wz0)).mono ?_
  rintro e w2' ⟨bt, ct, rfl, hF, u_w2'⟩
  replace B_a := B_a.below u_w2'
  replace B_m := B_m.below u_w2'
  have S_w2' := u_w2'.size
  have V_w2' : Below w.heap.size w w2' := V_wz0.trans (u_w2'.mono V_wz0.size)
  clear V_wz0
  clear u_w2'
  go_wp2
  go_loopw [46] (fun v wr => ∃ k : Nat, k ≤ 2 ∧ v = .int .i64 k ∧ Below w2'.heap.size w2' wr ∧ (0 < k → hb0 = true) ∧ (1 < k → hb1 = true)) (fun v _ => 2 - (intOf v).toNat)
  case atStart => exact ⟨0, by omega, rfl, Below.refl _ _, fun h => absurd h (by omega), fun h => absurd h (by omega)⟩
  case round =>
    obtain ⟨k, hk, rfl, hbel, g0, g1⟩ := hrel
    have G0 := Lib.hid g0
    have G1 := Lib.hid g1
    clear g1
    clear g0
    have VB := V_w2'
    have SB := V_w2'.size
    have B_a := B_a.below hbel
    have B_m := B_m.below hbel
    have V_wr := V_w2'.trans (hbel.mono V_w2'.size)
    have S_wr := hbel.size
    by_cases hlt : k < 2
    · obtain ⟨g, o, rfl, hc⟩ := (hF.below hbel).at (by omega)
      have hcase : k = 0 ∨ k = 1 := by omega
      rcases hcase with rfl | rfl
      · skip
        have tc0 : wr.cell? ⟨g, o, none⟩ = some (.int .i64 (1)) := hc 0 (by omega)
        have tc1 : wr.cell? ⟨g, o + 1, none⟩ = some (.int .i64 (0)) := hc 1 (by omega)
        have tc2 : wr.cell? ⟨g, o + 2, none⟩ = some (.int .i64 (-1)) := hc 2 (by omega)
        have tc3 : wr.cell? ⟨g, o + 3, none⟩ = some (.int .i64 (0)) := hc 3 (by omega)
        have tc4 : wr.cell? ⟨g, o + 4, none⟩ = some (.int .i64 (0)) := hc 4 (by omega)
        have tc5 : wr.cell? ⟨g, o + 5, none⟩ = some (.int .i64 (F0)) := hc 5 (by omega)
        clear hc
        rw [show ((0 : Nat) : Int) = 0 from rfl]
        go_upto_if 73 with fail
        clear tc0 tc1 tc2 tc3 tc4 tc5
        have HT : Below wr.heap.size wr (wr.alloc (.cells #[.int .i64 (1), .int .i64 (0), .int .i64 (-1), .int .i64 (0), .int .i64 (0), .int .i64 (F0)] 123)) := (Below.refl _ _).alloc (Nat.le_refl _) _
        refine Exists.elim (Blk.new_ wr (b := wr.heap.size) rfl 123 #[.int .i64 (1), .int .i64 (0), .int .i64 (-1), .int .i64 (0), .int .i64 (0), .int .i64 (F0)]) (fun w3' q => ?_)
        (try rw [q.1] at HT); (try rw [q.1]); have B_t := q.2.1; have s_w3' := q.2.2.1; have u_w3' := q.2.2.2; clear q
        replace B_a := B_a.below u_w3'
        replace B_m := B_m.below u_w3'
        have S_w3' : wr.heap.size + 1 ≤ w3'.heap.size := Nat.le_of_eq s_w3'.symm
        have V_w3' := V_wr.trans (u_w3'.mono (V_wr).size)
        clear u_w3' s_w3' V_wr
        have e_a_0 := B_a.a11_0
        have e_a_1 := B_a.a11_1
        have e_a_2 := B_a.a11_2
        have e_a_3 := B_a.a11_3
        have e_a_4 := B_a.a11_4
        have e_a_5 := B_a.a11_5
        have e_a_6 := B_a.a11_6
        have e_a_7 := B_a.a11_7
        have e_a_8 := B_a.a11_8
        have e_a_9 := B_a.a11_9
        have e_a_10 := B_a.a11_10
        have e_m_0 := B_m.a3_0
        have e_m_1 := B_m.a3_1
        have e_m_2 := B_m.a3_2
        have e_t_0 : w3'.cell? ⟨wr.heap.size, 0, none⟩ = some (.int .i64 (1)) := B_t.cell 0
        have e_t_1 : w3'.cell? ⟨wr.heap.size, 1, none⟩ = some (.int .i64 (0)) := B_t.cell 1
        have e_t_2 : w3'.cell? ⟨wr.heap.size, 2, none⟩ = some (.int .i64 (-1)) := B_t.cell 2
        have e_t_3 : w3'.cell? ⟨wr.heap.size, 3, none⟩ = some (.int .i64 (0)) := B_t.cell 3
        have e_t_4 : w3'.cell? ⟨wr.heap.size, 4, none⟩ = some (.int .i64 (0)) := B_t.cell 4
        have e_t_5 : w3'.cell? ⟨wr.heap.size, 5, none⟩ = some (.int .i64 (F0)) := B_t.cell 5
        have z0 := keepC V_w3' y0
        have z1 := keepC V_w3' y1
        have hR := (LH.out.below V_w3').drew
        go_region_held3 (fun W => W.cell? ⟨w.heap.size, 0, none⟩ = some (.int .i64 P) ∧ W.cell? ⟨w.heap.size, 1, none⟩ = some (.int .i64 pa) ∧ W.cell? ⟨w.heap.size, 2, none⟩ = some (.int .i64 ip) ∧ W.cell? ⟨w.heap.size, 3, none⟩ = some (.int .i64 mk) ∧ W.cell? ⟨w.heap.size, 4, none⟩ = some (.int .i64 de) ∧ W.cell? ⟨w.heap.size, 5, none⟩ = some (.slice x_sa x_sn x_sc) ∧ W.cell? ⟨w.heap.size, 6, none⟩ = some (.slice x_ka x_kn x_kc) ∧ W.cell? ⟨w.heap.size, 7, none⟩ = some (.int .i64 1) ∧ W.cell? ⟨w.heap.size, 8, none⟩ = some (.slice x_ha x_hn x_hc) ∧ W.cell? ⟨w.heap.size, 9, none⟩ = some (.int .i64 ss) ∧ W.cell? ⟨w.heap.size, 10, none⟩ = some (.int .i64 ou) ∧ W.cell? ⟨w.heap.size + 1, 0, none⟩ = some (.int .i64 (1 - pa)) ∧ W.cell? ⟨w.heap.size + 1, 1, none⟩ = some (.int .i64 1) ∧ W.cell? ⟨w.heap.size + 1, 2, none⟩ = some (.slice (some ⟨gb, ob, none⟩) 4 c) ∧ W.cell? ⟨wr.heap.size, 0, none⟩ = some (.int .i64 (1)) ∧ W.cell? ⟨wr.heap.size, 1, none⟩ = some (.int .i64 (0)) ∧ W.cell? ⟨wr.heap.size, 2, none⟩ = some (.int .i64 (-1)) ∧ W.cell? ⟨wr.heap.size, 3, none⟩ = some (.int .i64 (0)) ∧ W.cell? ⟨wr.heap.size, 4, none⟩ = some (.int .i64 (0)) ∧ W.cell? ⟨wr.heap.size, 5, none⟩ = some (.int .i64 (F0)) ∧ W.cell? ⟨gb, ob, none⟩ = some (.int .i64 v0) ∧ W.cell? ⟨gb, ob + 1, none⟩ = some (.int .i64 v1))
          (first | exact ⟨keepC u2 (keepC u e_a_0), keepC u2 (keepC u e_a_1), keepC u2 (keepC u e_a_2), keepC u2 (keepC u e_a_3), keepC u2 (keepC u e_a_4), keepC u2 (keepC u e_a_5), keepC u2 (keepC u e_a_6), keepC u2 (keepC u e_a_7), keepC u2 (keepC u e_a_8), keepC u2 (keepC u e_a_9), keepC u2 (keepC u e_a_10), keepC u2 (keepC u e_m_0), keepC u2 (keepC u e_m_1), keepC u2 (keepC u e_m_2), keepC u2 (keepC u e_t_0), keepC u2 (keepC u e_t_1), keepC u2 (keepC u e_t_2), keepC u2 (keepC u e_t_3), keepC u2 (keepC u e_t_4), keepC u2 (keepC u e_t_5), keepC u2 (keepC u z0), keepC u2 (keepC u z1)⟩ | exact ⟨keepC u e_a_0, keepC u e_a_1, keepC u e_a_2, keepC u e_a_3, keepC u e_a_4, keepC u e_a_5, keepC u e_a_6, keepC u e_a_7, keepC u e_a_8, keepC u e_a_9, keepC u e_a_10, keepC u e_m_0, keepC u e_m_1, keepC u e_m_2, keepC u e_t_0, keepC u e_t_1, keepC u e_t_2, keepC u e_t_3, keepC u e_t_4, keepC u e_t_5, keepC u z0, keepC u z1⟩ | exact ⟨e_a, e_m, e_t_0, e_t_1, e_t_2, e_t_3, e_t_4, e_t_5, z0, z1⟩ | go_keep)
          (first | (go_at_call 145; refine (CK0.out _ hR).mono ?_; rintro e wz0 ⟨rfl, u⟩) | (go_at_call 144; refine (CG0.out _).mono ?_; rintro e wz1 ⟨rfl, u2⟩))
        have u9 : Below w3'.heap.size w3' wz1 := (Below.refl _ _).drew.trans (u.trans (u2.mono u.size))
        have hbX := (hbel.trans (HT.mono hbel.size)).trans (u9.mono (Nat.le_trans hbel.size HT.size))
        clear HT u u2 hR z0 z1
        clear e_a_0 e_a_1 e_a_2 e_a_3 e_a_4 e_a_5 e_a_6 e_a_7 e_a_8 e_a_9 e_a_10 e_m_0 e_m_1 e_m_2 e_t_0 e_t_1 e_t_2 e_t_3 e_t_4 e_t_5
        replace B_a := B_a.below u9
        replace B_m := B_m.below u9
        replace B_t := B_t.below u9
        have S_wz1 := u9.size
        have V_wz1 : Below w.heap.size w wz1 := V_w3'.trans (u9.mono V_w3'.size)
        clear V_w3'
        clear u9
        cases hb0
        · go_wp2
          go_ret
          exact ⟨ret_bool (by rw [HA.out]; simp), V_wz1⟩
        · go_wp2
          go_roundw
          case rel => exact ⟨0 + 1, by omega, by go_num, hbX, fun _ => (by first | rfl | trivial), fun h => absurd h (by omega)⟩
          case measure => simp [intOf]
      · skip
        have tc0 : wr.cell? ⟨g, o + 6, none⟩ = some (.int .i64 (0)) := hc 6 (by omega)
        have tc1 : wr.cell? ⟨g, o + 7, none⟩ = some (.int .i64 (1)) := hc 7 (by omega)
        have tc2 : wr.cell? ⟨g, o + 8, none⟩ = some (.int .i64 (0)) := hc 8 (by omega)
        have tc3 : wr.cell? ⟨g, o + 9, none⟩ = some (.int .i64 (-1)) := hc 9 (by omega)
        have tc4 : wr.cell? ⟨g, o + 10, none⟩ = some (.int .i64 (0)) := hc 10 (by omega)
        have tc5 : wr.cell? ⟨g, o + 11, none⟩ = some (.int .i64 (F1)) := hc 11 (by omega)
        clear hc
        rw [show ((1 : Nat) : Int) = 1 from rfl]
        go_upto_if 73 with fail
        clear tc0 tc1 tc2 tc3 tc4 tc5
        have HT : Below wr.heap.size wr (wr.alloc (.cells #[.int .i64 (0), .int .i64 (1), .int .i64 (0), .int .i64 (-1), .int .i64 (0), .int .i64 (F1)] 123)) := (Below.refl _ _).alloc (Nat.le_refl _) _
        refine Exists.elim (Blk.new_ wr (b := wr.heap.size) rfl 123 #[.int .i64 (0), .int .i64 (1), .int .i64 (0), .int .i64 (-1), .int .i64 (0), .int .i64 (F1)]) (fun w4' q => ?_)
        (try rw [q.1] at HT); (try rw [q.1]); have B_t := q.2.1; have s_w4' := q.2.2.1; have u_w4' := q.2.2.2; clear q
        replace B_a := B_a.below u_w4'
        replace B_m := B_m.below u_w4'
        have S_w4' : wr.heap.size + 1 ≤ w4'.heap.size := Nat.le_of_eq s_w4'.symm
        have V_w4' := V_wr.trans (u_w4'.mono (V_wr).size)
        clear u_w4' s_w4' V_wr
        have e_a_0 := B_a.a11_0
        have e_a_1 := B_a.a11_1
        have e_a_2 := B_a.a11_2
        have e_a_3 := B_a.a11_3
        have e_a_4 := B_a.a11_4
        have e_a_5 := B_a.a11_5
        have e_a_6 := B_a.a11_6
        have e_a_7 := B_a.a11_7
        have e_a_8 := B_a.a11_8
        have e_a_9 := B_a.a11_9
        have e_a_10 := B_a.a11_10
        have e_m_0 := B_m.a3_0
        have e_m_1 := B_m.a3_1
        have e_m_2 := B_m.a3_2
        have e_t_0 : w4'.cell? ⟨wr.heap.size, 0, none⟩ = some (.int .i64 (0)) := B_t.cell 0
        have e_t_1 : w4'.cell? ⟨wr.heap.size, 1, none⟩ = some (.int .i64 (1)) := B_t.cell 1
        have e_t_2 : w4'.cell? ⟨wr.heap.size, 2, none⟩ = some (.int .i64 (0)) := B_t.cell 2
        have e_t_3 : w4'.cell? ⟨wr.heap.size, 3, none⟩ = some (.int .i64 (-1)) := B_t.cell 3
        have e_t_4 : w4'.cell? ⟨wr.heap.size, 4, none⟩ = some (.int .i64 (0)) := B_t.cell 4
        have e_t_5 : w4'.cell? ⟨wr.heap.size, 5, none⟩ = some (.int .i64 (F1)) := B_t.cell 5
        have z0 := keepC V_w4' y2
        have z1 := keepC V_w4' y3
        have hR := (LH.out.below V_w4').drew
        go_region_held3 (fun W => W.cell? ⟨w.heap.size, 0, none⟩ = some (.int .i64 P) ∧ W.cell? ⟨w.heap.size, 1, none⟩ = some (.int .i64 pa) ∧ W.cell? ⟨w.heap.size, 2, none⟩ = some (.int .i64 ip) ∧ W.cell? ⟨w.heap.size, 3, none⟩ = some (.int .i64 mk) ∧ W.cell? ⟨w.heap.size, 4, none⟩ = some (.int .i64 de) ∧ W.cell? ⟨w.heap.size, 5, none⟩ = some (.slice x_sa x_sn x_sc) ∧ W.cell? ⟨w.heap.size, 6, none⟩ = some (.slice x_ka x_kn x_kc) ∧ W.cell? ⟨w.heap.size, 7, none⟩ = some (.int .i64 1) ∧ W.cell? ⟨w.heap.size, 8, none⟩ = some (.slice x_ha x_hn x_hc) ∧ W.cell? ⟨w.heap.size, 9, none⟩ = some (.int .i64 ss) ∧ W.cell? ⟨w.heap.size, 10, none⟩ = some (.int .i64 ou) ∧ W.cell? ⟨w.heap.size + 1, 0, none⟩ = some (.int .i64 (1 - pa)) ∧ W.cell? ⟨w.heap.size + 1, 1, none⟩ = some (.int .i64 1) ∧ W.cell? ⟨w.heap.size + 1, 2, none⟩ = some (.slice (some ⟨gb, ob, none⟩) 4 c) ∧ W.cell? ⟨wr.heap.size, 0, none⟩ = some (.int .i64 (0)) ∧ W.cell? ⟨wr.heap.size, 1, none⟩ = some (.int .i64 (1)) ∧ W.cell? ⟨wr.heap.size, 2, none⟩ = some (.int .i64 (0)) ∧ W.cell? ⟨wr.heap.size, 3, none⟩ = some (.int .i64 (-1)) ∧ W.cell? ⟨wr.heap.size, 4, none⟩ = some (.int .i64 (0)) ∧ W.cell? ⟨wr.heap.size, 5, none⟩ = some (.int .i64 (F1)) ∧ W.cell? ⟨gb, ob + 2, none⟩ = some (.int .i64 v2) ∧ W.cell? ⟨gb, ob + 3, none⟩ = some (.int .i64 v3))
          (first | exact ⟨keepC u2 (keepC u e_a_0), keepC u2 (keepC u e_a_1), keepC u2 (keepC u e_a_2), keepC u2 (keepC u e_a_3), keepC u2 (keepC u e_a_4), keepC u2 (keepC u e_a_5), keepC u2 (keepC u e_a_6), keepC u2 (keepC u e_a_7), keepC u2 (keepC u e_a_8), keepC u2 (keepC u e_a_9), keepC u2 (keepC u e_a_10), keepC u2 (keepC u e_m_0), keepC u2 (keepC u e_m_1), keepC u2 (keepC u e_m_2), keepC u2 (keepC u e_t_0), keepC u2 (keepC u e_t_1), keepC u2 (keepC u e_t_2), keepC u2 (keepC u e_t_3), keepC u2 (keepC u e_t_4), keepC u2 (keepC u e_t_5), keepC u2 (keepC u z0), keepC u2 (keepC u z1)⟩ | exact ⟨keepC u e_a_0, keepC u e_a_1, keepC u e_a_2, keepC u e_a_3, keepC u e_a_4, keepC u e_a_5, keepC u e_a_6, keepC u e_a_7, keepC u e_a_8, keepC u e_a_9, keepC u e_a_10, keepC u e_m_0, keepC u e_m_1, keepC u e_m_2, keepC u e_t_0, keepC u e_t_1, keepC u e_t_2, keepC u e_t_3, keepC u e_t_4, keepC u e_t_5, keepC u z0, keepC u z1⟩ | exact ⟨e_a, e_m, e_t_0, e_t_1, e_t_2, e_t_3, e_t_4, e_t_5, z0, z1⟩ | go_keep)
          (first | (go_at_call 145; refine (CK1.out _ hR).mono ?_; rintro e wz0 ⟨rfl, u⟩) | (go_at_call 144; refine (CG1.out _).mono ?_; rintro e wz1 ⟨rfl, u2⟩))
        have u9 : Below w4'.heap.size w4' wz1 := (Below.refl _ _).drew.trans (u.trans (u2.mono u.size))
        have hbX := (hbel.trans (HT.mono hbel.size)).trans (u9.mono (Nat.le_trans hbel.size HT.size))
        clear HT u u2 hR z0 z1
        clear e_a_0 e_a_1 e_a_2 e_a_3 e_a_4 e_a_5 e_a_6 e_a_7 e_a_8 e_a_9 e_a_10 e_m_0 e_m_1 e_m_2 e_t_0 e_t_1 e_t_2 e_t_3 e_t_4 e_t_5
        replace B_a := B_a.below u9
        replace B_m := B_m.below u9
        replace B_t := B_t.below u9
        have S_wz1 := u9.size
        have V_wz1 : Below w.heap.size w wz1 := V_w4'.trans (u9.mono V_w4'.size)
        clear V_w4'
        clear u9
        cases hb1
        · go_wp2
          go_ret
          exact ⟨ret_bool (by rw [HA.out]; simp), V_wz1⟩
        · go_wp2
          go_roundw
          case rel => exact ⟨1 + 1, by omega, by go_num, hbX, fun _ => G0.out (by omega), fun _ => (by first | rfl | trivial)⟩
          case measure => simp [intOf]
    · obtain rfl : k = 2 := by omega
      go_wp2
      go_ret
      exact ⟨ret_bool (by rw [HA.out, G0.out (by omega), G1.out (by omega)]; rfl), V_wr⟩
set_option maxHeartbeats 16000000 in
set_option maxRecDepth 100000 in
theorem accepts_2 (a : Pl) (x : PlX) (fr st : Int) (b : Option Addr) (n c : Nat) (body : List Int) (w : World) (h : PlR w x a.shares a.keys a.heard) (hM : Ints w b n c body) (hT : Tbl w) (hN : PlN a) (hs : a.step = 2) :
    Calls Tryd.prog 123 #[.agg #[.int .i64 a.P, .int .i64 a.party, .int .i64 a.input, .int .i64 a.mask, .int .i64 a.delta, .slice x.sa x.sn x.sc, .slice x.ka x.kn x.kc, .int .i64 a.step, .slice x.ha x.hn x.hc, .int .i64 a.status, .int .i64 a.out], .agg #[.int .i64 fr, .int .i64 st, .slice b n c]] w fun e w' => e = .returned (.bool (accB a fr st body)) ∧ Below w.heap.size w w' := by
  have hp1 := hN.p1
  have hp2 := hN.p2
  have hpa := hN.pa
  have hpr := hN.pr
  have hn := hM.len
  have hnl := hM.le
  have hde := hN.de
  have q0 := f0_rng hN (by omega)
  have q1 := f1_rng hN (by omega)
  have rd := dI_rng hN
  have re := eI_rng hN
  have m1 : 0 ≤ dI a * eI a := Int.mul_nonneg rd.1 re.1
  have m2 : dI a * eI a ≤ 1000 * 1000 := Int.mul_le_mul (by omega) (by omega) re.1 (by omega)
  have CT := fun (W : World) (h2 : PlR W x a.shares a.keys a.heard) => terms_2s a.step hs a x W h2 hN (by omega)
  have CK0 := fun (W : World) (h2 : PlR W x a.shares a.keys a.heard) => keyOf_any a x (0) (0) (eI a) (dI a) (1) (dI a * eI a) W h2 hN (fun i _ => by unfold w5; split <;> (try split) <;> (try split) <;> (try split) <;> omega) (by omega)
  have rk0 : 0 ≤ keyT a (0) (0) (eI a) (dI a) (1) (dI a * eI a) ∧ keyT a (0) (0) (eI a) (dI a) (1) (dI a * eI a) ≤ a.P - 1 := cmb_rng _ _ _ _ _ _ _ _ (by omega)
  have HA := acc_split a fr st body n 2 hn hs
  have hTT : accT a body = (holdB a.P a.delta (keyT a (0) (0) (eI a) (dI a) (1) (dI a * eI a)) (body.getD 0 0) (body.getD 1 0)) := by
    unfold accT
    rw [if_neg (by omega), if_neg (by omega)]
  rw [hTT] at HA
  clear hTT
  have C5 := fun (W : World) (n : Nat) (hh : Ints W b n c body) => (show Calls Tryd.prog 59 #[.int .i64 a.P, .slice b n c] W fun e w' => e = .returned (.bool (allB body 0 (a.P - 1))) ∧ Below W.heap.size W w' by have := areElements_any a.P b n c body W hh; rw [elsB_of _ hpr] at this; exact this)
  have F5 : allB body 0 (a.P - 1) = true → ∀ x ∈ body, 0 ≤ x ∧ x ≤ a.P - 1 := fun h => (allB_iff _ _ _).1 h
  have CH0 := fun (W : World) (v t : Int) (hv : 0 ≤ v ∧ v ≤ a.P - 1) (ht : 0 ≤ t ∧ t ≤ a.P - 1) => holds_any a.P a.delta (keyT a (0) (0) (eI a) (dI a) (1) (dI a * eI a)) v t W (by omega) (by omega) (by omega) rk0 hv ht
  obtain ⟨kk0, hkk0⟩ : ∃ z, z = (keyT a (0) (0) (eI a) (dI a) (1) (dI a * eI a)) := ⟨_, rfl⟩
  rw [← hkk0] at HA CK0 CH0
  clear rk0 hkk0
  obtain ⟨D, hD⟩ : ∃ z, z = dI a := ⟨_, rfl⟩
  obtain ⟨EE, hE⟩ : ∃ z, z = eI a := ⟨_, rfl⟩
  unfold tm2 at CT
  rw [← hD, ← hE] at CT CK0
  clear hD hE q0 q1 rd re m1 m2
  generalize accB a fr st body = RR at *
  clear hN
  obtain ⟨P, pa, ip, mk, de, S, K, st0, H, ss, ou⟩ := a
  obtain ⟨x_sa, x_sn, x_sc, x_ka, x_kn, x_kc, x_ha, x_hn, x_hc⟩ := x
  dsimp only at *
  subst hs
  replace CT := Lib.hid CT
  replace C5 := Lib.hid C5
  replace F5 := Lib.hid F5
  replace CK0 := Lib.hid CK0
  replace CH0 := Lib.hid CH0
  have LH := Lib.hid h
  have LM := Lib.hid hM
  have LX := Lib.hid hT
  have LN := Lib.hid hn
  clear h hM hT hn
  generalize hb1 : decide (fr = 1 - pa) = b1 at HA
  generalize hb2 : decide (st = ((2 : Nat) : Int)) = b2 at HA
  generalize hb3 : decide (n = blen 2) = b3 at HA
  generalize allB body 0 (P - 1) = b4 at *
  have HB1 := Lib.hid hb1
  have HB2 := Lib.hid hb2
  have HB3 := Lib.hid hb3
  replace HA := Lib.hid HA
  clear hb1 hb2 hb3
  have t1 : IntKind.i64.wrap (1 - pa) = 1 - pa := IntWalk.i64_in _ (by omega)
  cases b1
  · have d1 : ((fr != 1 - pa) : Bool) = true := by have := HB1.out; simp at this; simp; omega
    go_enter Tryd.func123, Tryd.ntmps123
    go_upto_if 37 with fail
    refine Exists.elim (Blk.new_ w (b := w.heap.size) rfl 31 #[.int .i64 P, .int .i64 pa, .int .i64 ip, .int .i64 mk, .int .i64 de, .slice x_sa x_sn x_sc, .slice x_ka x_kn x_kc, .int .i64 2, .slice x_ha x_hn x_hc, .int .i64 ss, .int .i64 ou]) (fun w1_a0' q => ?_)
    rw [q.1]; have B_a := q.2.1; have s_w1_a0' := q.2.2.1; have u_w1_a0' := q.2.2.2; clear q
    refine Exists.elim (Blk.new_ w1_a0' (b := w.heap.size + 1) s_w1_a0' 44 #[.int .i64 fr, .int .i64 st, .slice b n c]) (fun w1' q => ?_)
    rw [q.1]; have B_m := q.2.1; have s_w1' := q.2.2.1; have u_w1' := q.2.2.2; clear q
    replace B_a := (B_a.below u_w1')
    have U := (u_w1_a0'.trans (u_w1'.mono u_w1_a0'.size))
    have S_w1' : w.heap.size + 2 ≤ w1'.heap.size := Nat.le_of_eq s_w1'.symm
    have V_w1' := (Below.refl w.heap.size w).trans (U.mono ((Below.refl w.heap.size w)).size)
    clear u_w1_a0' u_w1' s_w1_a0' s_w1' U
    have e_a_0 := B_a.a11_0
    have e_a_1 := B_a.a11_1
    have e_a_2 := B_a.a11_2
    have e_a_3 := B_a.a11_3
    have e_a_4 := B_a.a11_4
    have e_a_5 := B_a.a11_5
    have e_a_6 := B_a.a11_6
    have e_a_7 := B_a.a11_7
    have e_a_8 := B_a.a11_8
    have e_a_9 := B_a.a11_9
    have e_a_10 := B_a.a11_10
    have e_m_0 := B_m.a3_0
    have e_m_1 := B_m.a3_1
    have e_m_2 := B_m.a3_2
    have tb : w1'.cell? ⟨0, 2, none⟩ = some (.int .i64 2) := (LX.out.below V_w1').at 2 (by decide)
    go_wp2
    go_quiet (fail)
    go_wp2
    go_ret
    exact ⟨ret_bool (by rw [HA.out]; rfl), below_drewN V_w1' _⟩
  obtain rfl : fr = 1 - pa := by simpa using HB1.out
  cases b2
  · have d2 : ((st != 2) : Bool) = true := by have := HB2.out; simp at this; simp; omega
    go_enter Tryd.func123, Tryd.ntmps123
    go_upto_if 37 with fail
    refine Exists.elim (Blk.new_ w (b := w.heap.size) rfl 31 #[.int .i64 P, .int .i64 pa, .int .i64 ip, .int .i64 mk, .int .i64 de, .slice x_sa x_sn x_sc, .slice x_ka x_kn x_kc, .int .i64 2, .slice x_ha x_hn x_hc, .int .i64 ss, .int .i64 ou]) (fun w1_a0' q => ?_)
    rw [q.1]; have B_a := q.2.1; have s_w1_a0' := q.2.2.1; have u_w1_a0' := q.2.2.2; clear q
    refine Exists.elim (Blk.new_ w1_a0' (b := w.heap.size + 1) s_w1_a0' 44 #[.int .i64 (1 - pa), .int .i64 st, .slice b n c]) (fun w1' q => ?_)
    rw [q.1]; have B_m := q.2.1; have s_w1' := q.2.2.1; have u_w1' := q.2.2.2; clear q
    replace B_a := (B_a.below u_w1')
    have U := (u_w1_a0'.trans (u_w1'.mono u_w1_a0'.size))
    have S_w1' : w.heap.size + 2 ≤ w1'.heap.size := Nat.le_of_eq s_w1'.symm
    have V_w1' := (Below.refl w.heap.size w).trans (U.mono ((Below.refl w.heap.size w)).size)
    clear u_w1_a0' u_w1' s_w1_a0' s_w1' U
    have e_a_0 := B_a.a11_0
    have e_a_1 := B_a.a11_1
    have e_a_2 := B_a.a11_2
    have e_a_3 := B_a.a11_3
    have e_a_4 := B_a.a11_4
    have e_a_5 := B_a.a11_5
    have e_a_6 := B_a.a11_6
    have e_a_7 := B_a.a11_7
    have e_a_8 := B_a.a11_8
    have e_a_9 := B_a.a11_9
    have e_a_10 := B_a.a11_10
    have e_m_0 := B_m.a3_0
    have e_m_1 := B_m.a3_1
    have e_m_2 := B_m.a3_2
    have tb : w1'.cell? ⟨0, 2, none⟩ = some (.int .i64 2) := (LX.out.below V_w1').at 2 (by decide)
    go_wp2
    go_quiet (fail)
    go_wp2
    go_ret
    exact ⟨ret_bool (by rw [HA.out]; rfl), below_drewN V_w1' _⟩
  obtain rfl : st = 2 := by simpa using HB2.out
  cases b3
  · have d3 : (((n : Int) != 2) : Bool) = true := by have := HB3.out; simp [blen] at this; simp; omega
    go_enter Tryd.func123, Tryd.ntmps123
    go_upto_if 37 with fail
    refine Exists.elim (Blk.new_ w (b := w.heap.size) rfl 31 #[.int .i64 P, .int .i64 pa, .int .i64 ip, .int .i64 mk, .int .i64 de, .slice x_sa x_sn x_sc, .slice x_ka x_kn x_kc, .int .i64 2, .slice x_ha x_hn x_hc, .int .i64 ss, .int .i64 ou]) (fun w1_a0' q => ?_)
    rw [q.1]; have B_a := q.2.1; have s_w1_a0' := q.2.2.1; have u_w1_a0' := q.2.2.2; clear q
    refine Exists.elim (Blk.new_ w1_a0' (b := w.heap.size + 1) s_w1_a0' 44 #[.int .i64 (1 - pa), .int .i64 2, .slice b n c]) (fun w1' q => ?_)
    rw [q.1]; have B_m := q.2.1; have s_w1' := q.2.2.1; have u_w1' := q.2.2.2; clear q
    replace B_a := (B_a.below u_w1')
    have U := (u_w1_a0'.trans (u_w1'.mono u_w1_a0'.size))
    have S_w1' : w.heap.size + 2 ≤ w1'.heap.size := Nat.le_of_eq s_w1'.symm
    have V_w1' := (Below.refl w.heap.size w).trans (U.mono ((Below.refl w.heap.size w)).size)
    clear u_w1_a0' u_w1' s_w1_a0' s_w1' U
    have e_a_0 := B_a.a11_0
    have e_a_1 := B_a.a11_1
    have e_a_2 := B_a.a11_2
    have e_a_3 := B_a.a11_3
    have e_a_4 := B_a.a11_4
    have e_a_5 := B_a.a11_5
    have e_a_6 := B_a.a11_6
    have e_a_7 := B_a.a11_7
    have e_a_8 := B_a.a11_8
    have e_a_9 := B_a.a11_9
    have e_a_10 := B_a.a11_10
    have e_m_0 := B_m.a3_0
    have e_m_1 := B_m.a3_1
    have e_m_2 := B_m.a3_2
    have tb : w1'.cell? ⟨0, 2, none⟩ = some (.int .i64 2) := (LX.out.below V_w1').at 2 (by decide)
    go_wp2
    go_quiet (fail)
    go_wp2
    go_ret
    exact ⟨ret_bool (by rw [HA.out]; rfl), below_drewN V_w1' _⟩
  obtain rfl : n = 2 := by have := HB3.out; simpa [blen] using this
  clear HB1 HB2 HB3 hnl
  obtain ⟨gb, ob, rfl, hbc⟩ := LM.out.cells (by omega)
  have y0 := hbc 0 (by omega)
  have y1 := hbc 1 (by omega)
  rw [Nat.add_zero] at y0
  clear hbc
  generalize hv0 : body.getD 0 0 = v0 at *
  generalize hv1 : body.getD 1 0 = v1 at *
  replace hv0 := Lib.hid hv0
  replace hv1 := Lib.hid hv1
  go_enter Tryd.func123, Tryd.ntmps123
  go_upto_if 37 with fail
  refine Exists.elim (Blk.new_ w (b := w.heap.size) rfl 31 #[.int .i64 P, .int .i64 pa, .int .i64 ip, .int .i64 mk, .int .i64 de, .slice x_sa x_sn x_sc, .slice x_ka x_kn x_kc, .int .i64 2, .slice x_ha x_hn x_hc, .int .i64 ss, .int .i64 ou]) (fun w1_a0' q => ?_)
  rw [q.1]; have B_a := q.2.1; have s_w1_a0' := q.2.2.1; have u_w1_a0' := q.2.2.2; clear q
  refine Exists.elim (Blk.new_ w1_a0' (b := w.heap.size + 1) s_w1_a0' 44 #[.int .i64 (1 - pa), .int .i64 2, .slice (some ⟨gb, ob, none⟩) 2 c]) (fun w1' q => ?_)
  rw [q.1]; have B_m := q.2.1; have s_w1' := q.2.2.1; have u_w1' := q.2.2.2; clear q
  replace B_a := (B_a.below u_w1')
  have U := (u_w1_a0'.trans (u_w1'.mono u_w1_a0'.size))
  have S_w1' : w.heap.size + 2 ≤ w1'.heap.size := Nat.le_of_eq s_w1'.symm
  have V_w1' := (Below.refl w.heap.size w).trans (U.mono ((Below.refl w.heap.size w)).size)
  clear u_w1_a0' u_w1' s_w1_a0' s_w1' U
  have e_a_0 := B_a.a11_0
  have e_a_1 := B_a.a11_1
  have e_a_2 := B_a.a11_2
  have e_a_3 := B_a.a11_3
  have e_a_4 := B_a.a11_4
  have e_a_5 := B_a.a11_5
  have e_a_6 := B_a.a11_6
  have e_a_7 := B_a.a11_7
  have e_a_8 := B_a.a11_8
  have e_a_9 := B_a.a11_9
  have e_a_10 := B_a.a11_10
  have e_m_0 := B_m.a3_0
  have e_m_1 := B_m.a3_1
  have e_m_2 := B_m.a3_2
  have tb : w1'.cell? ⟨0, 2, none⟩ = some (.int .i64 2) := (LX.out.below V_w1').at 2 (by decide)
  have hR := (LM.out.below V_w1').drew
  go_wp2
  go_region_held3 (fun W => W.cell? ⟨w.heap.size, 0, none⟩ = some (.int .i64 P) ∧ W.cell? ⟨w.heap.size, 1, none⟩ = some (.int .i64 pa) ∧ W.cell? ⟨w.heap.size, 2, none⟩ = some (.int .i64 ip) ∧ W.cell? ⟨w.heap.size, 3, none⟩ = some (.int .i64 mk) ∧ W.cell? ⟨w.heap.size, 4, none⟩ = some (.int .i64 de) ∧ W.cell? ⟨w.heap.size, 5, none⟩ = some (.slice x_sa x_sn x_sc) ∧ W.cell? ⟨w.heap.size, 6, none⟩ = some (.slice x_ka x_kn x_kc) ∧ W.cell? ⟨w.heap.size, 7, none⟩ = some (.int .i64 2) ∧ W.cell? ⟨w.heap.size, 8, none⟩ = some (.slice x_ha x_hn x_hc) ∧ W.cell? ⟨w.heap.size, 9, none⟩ = some (.int .i64 ss) ∧ W.cell? ⟨w.heap.size, 10, none⟩ = some (.int .i64 ou) ∧ W.cell? ⟨w.heap.size + 1, 0, none⟩ = some (.int .i64 (1 - pa)) ∧ W.cell? ⟨w.heap.size + 1, 1, none⟩ = some (.int .i64 2) ∧ W.cell? ⟨w.heap.size + 1, 2, none⟩ = some (.slice (some ⟨gb, ob, none⟩) 2 c) ∧ W.cell? ⟨0, 2, none⟩ = some (.int .i64 2))
    (first | exact ⟨keepC u e_a_0, keepC u e_a_1, keepC u e_a_2, keepC u e_a_3, keepC u e_a_4, keepC u e_a_5, keepC u e_a_6, keepC u e_a_7, keepC u e_a_8, keepC u e_a_9, keepC u e_a_10, keepC u e_m_0, keepC u e_m_1, keepC u e_m_2, keepC u tb⟩ | exact ⟨e_a, e_m, tb⟩ | go_keep)
    (first | (go_at_call 59; refine (C5.out _ _ hR).mono ?_; rintro e wz0 ⟨rfl, u⟩))
  have u9 : Below w1'.heap.size w1' wz0 := (Below.refl _ _).drew.trans u
  clear tb u hR
  clear e_a_0 e_a_1 e_a_2 e_a_3 e_a_4 e_a_5 e_a_6 e_a_7 e_a_8 e_a_9 e_a_10 e_m_0 e_m_1 e_m_2
  replace B_a := B_a.below u9
  replace B_m := B_m.below u9
  have S_wz0 := u9.size
  have V_wz0 : Below w.heap.size w wz0 := V_w1'.trans (u9.mono V_w1'.size)
  clear V_w1'
  clear u9
  cases b4
  · go_wp2
    go_ret
    exact ⟨ret_bool (by rw [HA.out]; rfl), V_wz0⟩
  have rB := F5.out rfl
  have r0 := rB _ (getD_mem body 0 (by rw [← LN.out]; omega))
  rw [hv0.out] at r0
  clear hv0
  have r1 := rB _ (getD_mem body 1 (by rw [← LN.out]; omega))
  rw [hv1.out] at r1
  clear hv1
  clear rB
  have CG0 := Lib.hid (fun (W : World) => CH0.out W v0 v1 r0 r1)
  clear CH0
  generalize holdB P de kk0 v0 v1 = hb0 at *
  have sw0 : IntKind.i64.wrap 0 = 0 := IntWalk.i64_in _ (by omega)
  have sw1 : IntKind.i64.wrap 1 = 1 := IntWalk.i64_in _ (by omega)
  have sw2 : IntKind.i64.wrap 2 = 2 := IntWalk.i64_in _ (by omega)
  have sw3 : IntKind.i64.wrap 3 = 3 := IntWalk.i64_in _ (by omega)
  have e_a_0 := B_a.a11_0
  have e_a_1 := B_a.a11_1
  have e_a_2 := B_a.a11_2
  have e_a_3 := B_a.a11_3
  have e_a_4 := B_a.a11_4
  have e_a_5 := B_a.a11_5
  have e_a_6 := B_a.a11_6
  have e_a_7 := B_a.a11_7
  have e_a_8 := B_a.a11_8
  have e_a_9 := B_a.a11_9
  have e_a_10 := B_a.a11_10
  go_wp2_with fail
  clear e_a_0 e_a_1 e_a_2 e_a_3 e_a_4 e_a_5 e_a_6 e_a_7 e_a_8 e_a_9 e_a_10
  refine (CT.out _ (LH.out.below V_wz0)).mono ?_
  rintro e w2' ⟨bt, ct, rfl, hF, u_w2'⟩
  replace B_a := B_a.below u_w2'
  replace B_m := B_m.below u_w2'
  have S_w2' := u_w2'.size
  have V_w2' : Below w.heap.size w w2' := V_wz0.trans (u_w2'.mono V_wz0.size)
  clear V_wz0
  clear u_w2'
  go_wp2
  go_loopw [46] (fun v wr => ∃ k : Nat, k ≤ 1 ∧ v = .int .i64 k ∧ Below w2'.heap.size w2' wr ∧ (0 < k → hb0 = true)) (fun v _ => 1 - (intOf v).toNat)
  case atStart => exact ⟨0, by omega, rfl, Below.refl _ _, fun h => absurd h (by omega)⟩
  case round =>
    obtain ⟨k, hk, rfl, hbel, g0⟩ := hrel
    have G0 := Lib.hid g0
    clear g0
    have VB := V_w2'
    have SB := V_w2'.size
    have B_a := B_a.below hbel
    have B_m := B_m.below hbel
    have V_wr := V_w2'.trans (hbel.mono V_w2'.size)
    have S_wr := hbel.size
    by_cases hlt : k < 1
    · obtain ⟨g, o, rfl, hc⟩ := (hF.below hbel).at (by omega)
      obtain rfl : k = 0 := by omega
      have tc0 : wr.cell? ⟨g, o, none⟩ = some (.int .i64 (0)) := hc 0 (by omega)
      have tc1 : wr.cell? ⟨g, o + 1, none⟩ = some (.int .i64 (0)) := hc 1 (by omega)
      have tc2 : wr.cell? ⟨g, o + 2, none⟩ = some (.int .i64 (EE)) := hc 2 (by omega)
      have tc3 : wr.cell? ⟨g, o + 3, none⟩ = some (.int .i64 (D)) := hc 3 (by omega)
      have tc4 : wr.cell? ⟨g, o + 4, none⟩ = some (.int .i64 (1)) := hc 4 (by omega)
      have tc5 : wr.cell? ⟨g, o + 5, none⟩ = some (.int .i64 (D * EE)) := hc 5 (by omega)
      clear hc
      rw [show ((0 : Nat) : Int) = 0 from rfl]
      go_upto_if 73 with fail
      clear tc0 tc1 tc2 tc3 tc4 tc5
      have HT : Below wr.heap.size wr (wr.alloc (.cells #[.int .i64 (0), .int .i64 (0), .int .i64 (EE), .int .i64 (D), .int .i64 (1), .int .i64 (D * EE)] 123)) := (Below.refl _ _).alloc (Nat.le_refl _) _
      refine Exists.elim (Blk.new_ wr (b := wr.heap.size) rfl 123 #[.int .i64 (0), .int .i64 (0), .int .i64 (EE), .int .i64 (D), .int .i64 (1), .int .i64 (D * EE)]) (fun w3' q => ?_)
      (try rw [q.1] at HT); (try rw [q.1]); have B_t := q.2.1; have s_w3' := q.2.2.1; have u_w3' := q.2.2.2; clear q
      replace B_a := B_a.below u_w3'
      replace B_m := B_m.below u_w3'
      have S_w3' : wr.heap.size + 1 ≤ w3'.heap.size := Nat.le_of_eq s_w3'.symm
      have V_w3' := V_wr.trans (u_w3'.mono (V_wr).size)
      clear u_w3' s_w3' V_wr
      have e_a_0 := B_a.a11_0
      have e_a_1 := B_a.a11_1
      have e_a_2 := B_a.a11_2
      have e_a_3 := B_a.a11_3
      have e_a_4 := B_a.a11_4
      have e_a_5 := B_a.a11_5
      have e_a_6 := B_a.a11_6
      have e_a_7 := B_a.a11_7
      have e_a_8 := B_a.a11_8
      have e_a_9 := B_a.a11_9
      have e_a_10 := B_a.a11_10
      have e_m_0 := B_m.a3_0
      have e_m_1 := B_m.a3_1
      have e_m_2 := B_m.a3_2
      have e_t_0 : w3'.cell? ⟨wr.heap.size, 0, none⟩ = some (.int .i64 (0)) := B_t.cell 0
      have e_t_1 : w3'.cell? ⟨wr.heap.size, 1, none⟩ = some (.int .i64 (0)) := B_t.cell 1
      have e_t_2 : w3'.cell? ⟨wr.heap.size, 2, none⟩ = some (.int .i64 (EE)) := B_t.cell 2
      have e_t_3 : w3'.cell? ⟨wr.heap.size, 3, none⟩ = some (.int .i64 (D)) := B_t.cell 3
      have e_t_4 : w3'.cell? ⟨wr.heap.size, 4, none⟩ = some (.int .i64 (1)) := B_t.cell 4
      have e_t_5 : w3'.cell? ⟨wr.heap.size, 5, none⟩ = some (.int .i64 (D * EE)) := B_t.cell 5
      have z0 := keepC V_w3' y0
      have z1 := keepC V_w3' y1
      have hR := (LH.out.below V_w3').drew
      go_region_held3 (fun W => W.cell? ⟨w.heap.size, 0, none⟩ = some (.int .i64 P) ∧ W.cell? ⟨w.heap.size, 1, none⟩ = some (.int .i64 pa) ∧ W.cell? ⟨w.heap.size, 2, none⟩ = some (.int .i64 ip) ∧ W.cell? ⟨w.heap.size, 3, none⟩ = some (.int .i64 mk) ∧ W.cell? ⟨w.heap.size, 4, none⟩ = some (.int .i64 de) ∧ W.cell? ⟨w.heap.size, 5, none⟩ = some (.slice x_sa x_sn x_sc) ∧ W.cell? ⟨w.heap.size, 6, none⟩ = some (.slice x_ka x_kn x_kc) ∧ W.cell? ⟨w.heap.size, 7, none⟩ = some (.int .i64 2) ∧ W.cell? ⟨w.heap.size, 8, none⟩ = some (.slice x_ha x_hn x_hc) ∧ W.cell? ⟨w.heap.size, 9, none⟩ = some (.int .i64 ss) ∧ W.cell? ⟨w.heap.size, 10, none⟩ = some (.int .i64 ou) ∧ W.cell? ⟨w.heap.size + 1, 0, none⟩ = some (.int .i64 (1 - pa)) ∧ W.cell? ⟨w.heap.size + 1, 1, none⟩ = some (.int .i64 2) ∧ W.cell? ⟨w.heap.size + 1, 2, none⟩ = some (.slice (some ⟨gb, ob, none⟩) 2 c) ∧ W.cell? ⟨wr.heap.size, 0, none⟩ = some (.int .i64 (0)) ∧ W.cell? ⟨wr.heap.size, 1, none⟩ = some (.int .i64 (0)) ∧ W.cell? ⟨wr.heap.size, 2, none⟩ = some (.int .i64 (EE)) ∧ W.cell? ⟨wr.heap.size, 3, none⟩ = some (.int .i64 (D)) ∧ W.cell? ⟨wr.heap.size, 4, none⟩ = some (.int .i64 (1)) ∧ W.cell? ⟨wr.heap.size, 5, none⟩ = some (.int .i64 (D * EE)) ∧ W.cell? ⟨gb, ob, none⟩ = some (.int .i64 v0) ∧ W.cell? ⟨gb, ob + 1, none⟩ = some (.int .i64 v1))
        (first | exact ⟨keepC u2 (keepC u e_a_0), keepC u2 (keepC u e_a_1), keepC u2 (keepC u e_a_2), keepC u2 (keepC u e_a_3), keepC u2 (keepC u e_a_4), keepC u2 (keepC u e_a_5), keepC u2 (keepC u e_a_6), keepC u2 (keepC u e_a_7), keepC u2 (keepC u e_a_8), keepC u2 (keepC u e_a_9), keepC u2 (keepC u e_a_10), keepC u2 (keepC u e_m_0), keepC u2 (keepC u e_m_1), keepC u2 (keepC u e_m_2), keepC u2 (keepC u e_t_0), keepC u2 (keepC u e_t_1), keepC u2 (keepC u e_t_2), keepC u2 (keepC u e_t_3), keepC u2 (keepC u e_t_4), keepC u2 (keepC u e_t_5), keepC u2 (keepC u z0), keepC u2 (keepC u z1)⟩ | exact ⟨keepC u e_a_0, keepC u e_a_1, keepC u e_a_2, keepC u e_a_3, keepC u e_a_4, keepC u e_a_5, keepC u e_a_6, keepC u e_a_7, keepC u e_a_8, keepC u e_a_9, keepC u e_a_10, keepC u e_m_0, keepC u e_m_1, keepC u e_m_2, keepC u e_t_0, keepC u e_t_1, keepC u e_t_2, keepC u e_t_3, keepC u e_t_4, keepC u e_t_5, keepC u z0, keepC u z1⟩ | exact ⟨e_a, e_m, e_t_0, e_t_1, e_t_2, e_t_3, e_t_4, e_t_5, z0, z1⟩ | go_keep)
        (first | (go_at_call 145; refine (CK0.out _ hR).mono ?_; rintro e wz0 ⟨rfl, u⟩) | (go_at_call 144; refine (CG0.out _).mono ?_; rintro e wz1 ⟨rfl, u2⟩))
      have u9 : Below w3'.heap.size w3' wz1 := (Below.refl _ _).drew.trans (u.trans (u2.mono u.size))
      have hbX := (hbel.trans (HT.mono hbel.size)).trans (u9.mono (Nat.le_trans hbel.size HT.size))
      clear HT u u2 hR z0 z1
      clear e_a_0 e_a_1 e_a_2 e_a_3 e_a_4 e_a_5 e_a_6 e_a_7 e_a_8 e_a_9 e_a_10 e_m_0 e_m_1 e_m_2 e_t_0 e_t_1 e_t_2 e_t_3 e_t_4 e_t_5
      replace B_a := B_a.below u9
      replace B_m := B_m.below u9
      replace B_t := B_t.below u9
      have S_wz1 := u9.size
      have V_wz1 : Below w.heap.size w wz1 := V_w3'.trans (u9.mono V_w3'.size)
      clear V_w3'
      clear u9
      cases hb0
      · go_wp2
        go_ret
        exact ⟨ret_bool (by rw [HA.out]; simp), V_wz1⟩
      · go_wp2
        go_roundw
        case rel => exact ⟨0 + 1, by omega, by go_num, hbX, fun _ => (by first | rfl | trivial)⟩
        case measure => simp [intOf]
    · obtain rfl : k = 1 := by omega
      go_wp2
      go_ret
      exact ⟨ret_bool (by rw [HA.out, G0.out (by omega)]; rfl), V_wr⟩
theorem accepts_any (a : Pl) (x : PlX) (fr st : Int) (b : Option Addr) (n c : Nat) (body : List Int) (w : World) (h : PlR w x a.shares a.keys a.heard) (hM : Ints w b n c body) (hT : Tbl w) (hN : PlN a) (hs : a.step ≤ 2) :
    Calls Tryd.prog 123 #[.agg #[.int .i64 a.P, .int .i64 a.party, .int .i64 a.input, .int .i64 a.mask, .int .i64 a.delta, .slice x.sa x.sn x.sc, .slice x.ka x.kn x.kc, .int .i64 a.step, .slice x.ha x.hn x.hc, .int .i64 a.status, .int .i64 a.out], .agg #[.int .i64 fr, .int .i64 st, .slice b n c]] w fun e w' => e = .returned (.bool (accB a fr st body)) ∧ Below w.heap.size w w' := by
  have h0 := hN.stp
  have : a.step = 0 ∨ a.step = 1 ∨ a.step = 2 := by omega
  rcases this with e | e | e
  · exact accepts_0 a x fr st b n c body w h hM hT hN e
  · exact accepts_1 a x fr st b n c body w h hM hT hN e
  · exact accepts_2 a x fr st b n c body w h hM hT hN e
theorem body_any (a : Pl) (x : PlX) (w : World) (h : PlR w x a.shares a.keys a.heard) (hN : PlN a) (hs : a.step ≤ 2) :
    Calls Tryd.prog 73 #[.agg #[.int .i64 a.P, .int .i64 a.party, .int .i64 a.input, .int .i64 a.mask, .int .i64 a.delta, .slice x.sa x.sn x.sc, .slice x.ka x.kn x.kc, .int .i64 a.step, .slice x.ha x.hn x.hc, .int .i64 a.status, .int .i64 a.out]] w fun e w' => ∃ b c, e = .returned (.slice b (bodyL a).length c) ∧ Own w' w.heap.size b (bodyL a).length c (bodyL a) ∧ Below w.heap.size w w' := by
  have h0 := hN.stp
  have : a.step = 0 ∨ a.step = 1 ∨ a.step = 2 := by omega
  rcases this with e | e | e
  · have hb : bodyL a = [mkI a] := by unfold bodyL; rw [if_pos e]
    rw [hb]; exact body_0 a x w hN e
  · have hb : bodyL a = [seV0 a, seT0 a, seV1 a, seT1 a] := by unfold bodyL; rw [if_neg (by omega), if_pos e]
    rw [hb]; exact body_1 a x w h hN e
  · have hb : bodyL a = [thV a, thT a] := by unfold bodyL; rw [if_neg (by omega), if_neg (by omega)]
    rw [hb]; exact body_2 a x w h hN e
theorem bodyL_len (a : Pl) (hN : PlN a) (hs : a.step ≤ 2) : (bodyL a).length = blen a.step.toNat := by
  have h0 := hN.stp
  have : a.step = 0 ∨ a.step = 1 ∨ a.step = 2 := by omega
  unfold bodyL
  rcases this with e | e | e <;> rw [e] <;> rfl
theorem bodyL_rng (a : Pl) (hN : PlN a) : ∀ v ∈ bodyL a, 0 ≤ v ∧ v ≤ a.P - 1 := by
  have hp := hN.p1
  intro v hv
  unfold bodyL at hv
  have c := fun (L : Nat → Int) (w0 w1 w2 w3 w4 m : Int) => cmb_rng a.P L w0 w1 w2 w3 w4 m (by omega)
  split at hv
  · simp at hv; subst hv; exact mkI_rng hN
  · split at hv
    · simp at hv
      rcases hv with rfl | rfl | rfl | rfl <;> exact c _ _ _ _ _ _ _
    · simp at hv
      rcases hv with rfl | rfl <;> exact c _ _ _ _ _ _ _
end Go.Proofs.YtlmdckcohoddnaaDoor
