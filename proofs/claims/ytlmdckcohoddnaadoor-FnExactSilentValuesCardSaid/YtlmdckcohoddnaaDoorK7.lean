/- Lemmas and walks that the claim's proof rests on, part 7. -/
import Derived.Deep.DeepCutAuto
import Derived.Test.YtlmdckcohoddnaaDoorK3
import Derived.Test.YtlmdckcohoddnaaDoorK6
namespace Go.Proofs.YtlmdckcohoddnaaDoor
open Go.RowKit
theorem combine_n (p : Int) (n : Nat) (hn : n = 5) (sa : Option Addr) (sc : Nat) (S : List Int) (LV LT : Nat → Int) (w0 w1 w2 w3 w4 m : Int) (w : World) (h : Flat 2 w sa n sc S) (hV : ∀ i, i < 5 → S.getD (i * 2) 0 = LV i) (hT : ∀ i, i < 5 → S.getD (i * 2 + 1) 0 = LT i)
    (hp : 1 ≤ p) (hp2 : p ≤ 1000) (rV : ∀ i, i < 5 → 0 ≤ LV i ∧ LV i ≤ 1000) (rT : ∀ i, i < 5 → 0 ≤ LT i ∧ LT i ≤ 1000) (rW : ∀ i, i < 5 → -1000 ≤ w5 w0 w1 w2 w3 w4 i ∧ w5 w0 w1 w2 w3 w4 i ≤ 1000) (rm : -1000000 ≤ m ∧ m ≤ 1000000) :
    Calls Tryd.prog 135 #[.int .i64 p, .slice sa n sc, .agg #[.int .i64 w0, .int .i64 w1, .int .i64 w2, .int .i64 w3, .int .i64 w4], .int .i64 m] w fun e w' => e = .returned (.agg #[.int .i64 (cmb p LV w0 w1 w2 w3 w4 m), .int .i64 (cmb p LT w0 w1 w2 w3 w4 0)]) ∧ Below w.heap.size w w' := by
  subst hn; exact combine_any p sa sc S LV LT w0 w1 w2 w3 w4 m w h hV hT hp hp2 rV rT rW rm
set_option maxHeartbeats 8000000 in
set_option maxRecDepth 100000 in
theorem own_any (a : Pl) (x : PlX) (w0 w1 w2 w3 w4 m : Int) (w : World) (h : PlR w x a.shares a.keys a.heard) (hN : PlN a) (rW : ∀ i, i < 5 → -1000 ≤ w5 w0 w1 w2 w3 w4 i ∧ w5 w0 w1 w2 w3 w4 i ≤ 1000) (rm : -1000000 ≤ m ∧ m ≤ 1000000) :
    Calls Tryd.prog 110 #[.agg #[.int .i64 a.P, .int .i64 a.party, .int .i64 a.input, .int .i64 a.mask, .int .i64 a.delta, .slice x.sa x.sn x.sc, .slice x.ka x.kn x.kc, .int .i64 a.step, .slice x.ha x.hn x.hc, .int .i64 a.status, .int .i64 a.out], .agg #[.int .i64 w0, .int .i64 w1, .int .i64 w2, .int .i64 w3, .int .i64 w4, .int .i64 m]] w fun e w' => e = .returned (.agg #[.int .i64 (cmb a.P (shV a) w0 w1 w2 w3 w4 (mor a m)), .int .i64 (cmb a.P (shT a) w0 w1 w2 w3 w4 0)]) ∧ Below w.heap.size w w' := by
  have hp1 := hN.p1
  have hp2 := hN.p2
  obtain ⟨hS, _⟩ := h
  have hs5 : x.sn = 5 := by have := hS.len; have := hN.sl; omega
  have CB := fun (W : World) (mm : Int) (rmm : -1000000 ≤ mm ∧ mm ≤ 1000000) (hF : Flat 2 W x.sa x.sn x.sc a.shares) => combine_n a.P x.sn hs5 x.sa x.sc a.shares (shV a) (shT a) w0 w1 w2 w3 w4 mm W hF (fun i _ => rfl) (fun i _ => rfl) (by omega) (by omega) (fun i hi => by have := hN.sv i hi; omega) (fun i hi => by have := hN.st i hi; omega) rW rmm
  replace CB := Lib.hid CB
  clear hs5 hN rW
  unfold mor
  by_cases k0 : a.party = 1
  · rw [if_pos k0]
    have k1 : ((a.party == 1) : Bool) = true := by simpa using k0
    clear k0
    go_enter Tryd.func110, Tryd.ntmps110
    go_upto_if 7 with fail
    refine Exists.elim (Blk.new_ w (b := w.heap.size) rfl 31 #[.int .i64 a.P, .int .i64 a.party, .int .i64 a.input, .int .i64 a.mask, .int .i64 a.delta, .slice x.sa x.sn x.sc, .slice x.ka x.kn x.kc, .int .i64 a.step, .slice x.ha x.hn x.hc, .int .i64 a.status, .int .i64 a.out]) (fun w1_a0' q => ?_)
    rw [q.1]; have B_a := q.2.1; have s_w1_a0' := q.2.2.1; have u_w1_a0' := q.2.2.2; clear q
    refine Exists.elim (Blk.new_ w1_a0' (b := w.heap.size + 1) s_w1_a0' 123 #[.int .i64 w0, .int .i64 w1, .int .i64 w2, .int .i64 w3, .int .i64 w4, .int .i64 m]) (fun w1_a1' q => ?_)
    rw [q.1]; have B_t := q.2.1; have s_w1_a1' := q.2.2.1; have u_w1_a1' := q.2.2.2; clear q
    refine Exists.elim (Blk.new_ w1_a1' (b := w.heap.size + 2) s_w1_a1' 81 #[.int .i64 0, .int .i64 0]) (fun w1' q => ?_)
    rw [q.1]; have B_r := q.2.1; have s_w1' := q.2.2.1; have u_w1' := q.2.2.2; clear q
    replace B_a := ((B_a.below u_w1_a1').below u_w1')
    replace B_t := (B_t.below u_w1')
    have U := (u_w1_a0'.trans ((u_w1_a1'.trans (u_w1'.mono u_w1_a1'.size)).mono u_w1_a0'.size))
    have S_w1' : w.heap.size + 3 ≤ w1'.heap.size := Nat.le_of_eq s_w1'.symm
    have V_w1' := (Below.refl w.heap.size w).trans (U.mono ((Below.refl w.heap.size w)).size)
    clear u_w1_a0' u_w1_a1' u_w1' s_w1_a0' s_w1_a1' s_w1' U
    have e_a := B_a.all11
    have e_t_0 : w1'.cell? ⟨w.heap.size + 1, 0, none⟩ = some (.int .i64 w0) := B_t.cell 0
    have f_t_0 := B_t.frozen 0
    have e_t_1 : w1'.cell? ⟨w.heap.size + 1, 1, none⟩ = some (.int .i64 w1) := B_t.cell 1
    have f_t_1 := B_t.frozen 1
    have e_t_2 : w1'.cell? ⟨w.heap.size + 1, 2, none⟩ = some (.int .i64 w2) := B_t.cell 2
    have f_t_2 := B_t.frozen 2
    have e_t_3 : w1'.cell? ⟨w.heap.size + 1, 3, none⟩ = some (.int .i64 w3) := B_t.cell 3
    have f_t_3 := B_t.frozen 3
    have e_t_4 : w1'.cell? ⟨w.heap.size + 1, 4, none⟩ = some (.int .i64 w4) := B_t.cell 4
    have f_t_4 := B_t.frozen 4
    have e_t_5 : w1'.cell? ⟨w.heap.size + 1, 5, none⟩ = some (.int .i64 m) := B_t.cell 5
    have f_t_5 := B_t.frozen 5
    go_wp2_with fail
    clear e_a e_t_0 f_t_0 e_t_1 f_t_1 e_t_2 f_t_2 e_t_3 f_t_3 e_t_4 f_t_4 e_t_5 f_t_5
    have g_1 : Only [w.heap.size + 1] w1' (w1'.setCell ⟨w.heap.size + 1, 5, none⟩ (.int .i64 0)) := (Only.refl _ _).setCell _ _ (by simp)
    replace B_t := B_t.set_ 5 (.int .i64 0)
    generalize w1'.setCell ⟨w.heap.size + 1, 5, none⟩ (.int .i64 0) = w2' at *
    have G := g_1
    clear g_1
    simp only [List.setIfInBounds_toArray, List.set_cons_zero, List.set_cons_succ] at B_t
    have V_w2' := (V_w1').trans (G.below (V_w1').size (fun q hq => by have := (V_w1').size; simp at hq; omega))
    replace B_a := B_a.only G (by first | (simp; done) | (simp; omega))
    replace B_r := B_r.only G (by first | (simp; done) | (simp; omega))
    have sG0 := G.size
    clear G
    clear V_w1'
    have S_w2' : w1'.heap.size + 0 ≤ w2'.heap.size := by omega
    clear sG0
    refine (CB.out _ 0 ⟨by omega, by omega⟩ (hS.below V_w2')).mono ?_
    rintro e w3' ⟨rfl, u_w3'⟩
    replace B_a := B_a.below u_w3'
    replace B_t := B_t.below u_w3'
    replace B_r := B_r.below u_w3'
    have S_w3' := u_w3'.size
    have V_w3' : Below w.heap.size w w3' := V_w2'.trans (u_w3'.mono V_w2'.size)
    clear V_w2'
    clear u_w3'
    have e_r := B_r.all2
    have f_r := B_r.frz2
    go_wp2
    have V9 := (V_w3'.setCell (p := ⟨w.heap.size + 2, 0, none⟩) (by simp) (.int .i64 (cmb a.P (shV a) w0 w1 w2 w3 w4 0))).setCell (p := ⟨w.heap.size + 2, 1, none⟩) (by simp) (.int .i64 (cmb a.P (shT a) w0 w1 w2 w3 w4 0))
    exact bodyPost_ret (v := .agg #[.int .i64 (cmb a.P (shV a) w0 w1 w2 w3 w4 0), .int .i64 (cmb a.P (shT a) w0 w1 w2 w3 w4 0)]) (by simp [results, Tryd.results110, go_sem, e_r]) rfl ⟨rfl, V9⟩
  · rw [if_neg k0]
    have k1 : ((a.party == 1) : Bool) = false := by simpa using k0
    clear k0
    go_enter Tryd.func110, Tryd.ntmps110
    go_wp2_with fail
    refine Exists.elim (Blk.new_ w (b := w.heap.size) rfl 31 #[.int .i64 a.P, .int .i64 a.party, .int .i64 a.input, .int .i64 a.mask, .int .i64 a.delta, .slice x.sa x.sn x.sc, .slice x.ka x.kn x.kc, .int .i64 a.step, .slice x.ha x.hn x.hc, .int .i64 a.status, .int .i64 a.out]) (fun w4_a0' q => ?_)
    rw [q.1]; have B_a := q.2.1; have s_w4_a0' := q.2.2.1; have u_w4_a0' := q.2.2.2; clear q
    refine Exists.elim (Blk.new_ w4_a0' (b := w.heap.size + 1) s_w4_a0' 123 #[.int .i64 w0, .int .i64 w1, .int .i64 w2, .int .i64 w3, .int .i64 w4, .int .i64 m]) (fun w4_a1' q => ?_)
    rw [q.1]; have B_t := q.2.1; have s_w4_a1' := q.2.2.1; have u_w4_a1' := q.2.2.2; clear q
    refine Exists.elim (Blk.new_ w4_a1' (b := w.heap.size + 2) s_w4_a1' 81 #[.int .i64 0, .int .i64 0]) (fun w4' q => ?_)
    rw [q.1]; have B_r := q.2.1; have s_w4' := q.2.2.1; have u_w4' := q.2.2.2; clear q
    replace B_a := ((B_a.below u_w4_a1').below u_w4')
    replace B_t := (B_t.below u_w4')
    have U := (u_w4_a0'.trans ((u_w4_a1'.trans (u_w4'.mono u_w4_a1'.size)).mono u_w4_a0'.size))
    have S_w4' : w.heap.size + 3 ≤ w4'.heap.size := Nat.le_of_eq s_w4'.symm
    have V_w4' := (Below.refl w.heap.size w).trans (U.mono ((Below.refl w.heap.size w)).size)
    clear u_w4_a0' u_w4_a1' u_w4' s_w4_a0' s_w4_a1' s_w4' U
    refine (CB.out _ m ⟨by omega, by omega⟩ (hS.below V_w4')).mono ?_
    rintro e w5' ⟨rfl, u_w5'⟩
    replace B_a := B_a.below u_w5'
    replace B_t := B_t.below u_w5'
    replace B_r := B_r.below u_w5'
    have S_w5' := u_w5'.size
    have V_w5' : Below w.heap.size w w5' := V_w4'.trans (u_w5'.mono V_w4'.size)
    clear V_w4'
    clear u_w5'
    have e_r := B_r.all2
    have f_r := B_r.frz2
    go_wp2
    have V9 := (V_w5'.setCell (p := ⟨w.heap.size + 2, 0, none⟩) (by simp) (.int .i64 (cmb a.P (shV a) w0 w1 w2 w3 w4 m))).setCell (p := ⟨w.heap.size + 2, 1, none⟩) (by simp) (.int .i64 (cmb a.P (shT a) w0 w1 w2 w3 w4 0))
    exact bodyPost_ret (v := .agg #[.int .i64 (cmb a.P (shV a) w0 w1 w2 w3 w4 m), .int .i64 (cmb a.P (shT a) w0 w1 w2 w3 w4 0)]) (by simp [results, Tryd.results110, go_sem, e_r]) rfl ⟨rfl, V9⟩
end Go.Proofs.YtlmdckcohoddnaaDoor
namespace Go.Proofs.YtlmdckcohoddnaaDoor
open Go.RowKit
theorem psum_shift (L W : Nat → Int) (m : Int) (k : Nat) : psum L W m k = psum L W 0 k + m := by
  induction k with
  | zero => simp [psum]
  | succ k ih => unfold psum; rw [ih]; omega
theorem keyT_eq (a : Pl) (w0 w1 w2 w3 w4 m : Int) : keyT a w0 w1 w2 w3 w4 m = (psum (kyI a) (w5 w0 w1 w2 w3 w4) 0 5 + (if a.party = 1 then -((m % a.P) * a.delta) else 0)) % a.P := by
  unfold keyT
  rw [← cmb_psum, psum_shift]
set_option maxHeartbeats 16000000 in
set_option maxRecDepth 100000 in
theorem keyOf_any (a : Pl) (x : PlX) (w0 w1 w2 w3 w4 m : Int) (w : World) (h : PlR w x a.shares a.keys a.heard) (hN : PlN a) (rW : ∀ i, i < 5 → -1000 ≤ w5 w0 w1 w2 w3 w4 i ∧ w5 w0 w1 w2 w3 w4 i ≤ 1000) (_rm : -1000000 ≤ m ∧ m ≤ 1000000) :
    Calls Tryd.prog 145 #[.agg #[.int .i64 a.P, .int .i64 a.party, .int .i64 a.input, .int .i64 a.mask, .int .i64 a.delta, .slice x.sa x.sn x.sc, .slice x.ka x.kn x.kc, .int .i64 a.step, .slice x.ha x.hn x.hc, .int .i64 a.status, .int .i64 a.out], .agg #[.int .i64 w0, .int .i64 w1, .int .i64 w2, .int .i64 w3, .int .i64 w4, .int .i64 m]] w fun e w' => e = .returned (.int .i64 (keyT a w0 w1 w2 w3 w4 m)) ∧ Below w.heap.size w w' := by
  have hp1 := hN.p1
  have hp2 := hN.p2
  have hde := hN.de
  obtain ⟨_, hK, _⟩ := h
  have hk5 : x.kn = 5 := by have := hK.len; have := hN.kl; omega
  obtain ⟨x_sa, x_sn, x_sc, x_ka, x_kn, x_kc, x_ha, x_hn, x_hc⟩ := x
  dsimp only at *
  have LK := Lib.hid hK
  have HK5 := Lib.hid hk5
  have bV := Lib.hid (fun (k : Nat) (hk : k ≤ 5) => psum_bd (L := kyI a) (W := w5 w0 w1 w2 w3 w4) (k := k) (m := 0) (fun i hi => by have := hN.ky i (by omega); omega) (fun i hi => rW i (by omega)) (by omega))
  have eV := Lib.hid (keyT_eq a w0 w1 w2 w3 w4 m)
  have mm := emod_rng m a.P (by omega)
  clear hN rW hK hk5
  go_enter Tryd.func145, Tryd.ntmps145
  go_wp2
  refine Exists.elim (Blk.new_ w (b := w.heap.size) rfl 31 #[.int .i64 a.P, .int .i64 a.party, .int .i64 a.input, .int .i64 a.mask, .int .i64 a.delta, .slice x_sa x_sn x_sc, .slice x_ka x_kn x_kc, .int .i64 a.step, .slice x_ha x_hn x_hc, .int .i64 a.status, .int .i64 a.out]) (fun w1_a0' q => ?_)
  rw [q.1]; have B_a := q.2.1; have s_w1_a0' := q.2.2.1; have u_w1_a0' := q.2.2.2; clear q
  refine Exists.elim (Blk.new_ w1_a0' (b := w.heap.size + 1) s_w1_a0' 123 #[.int .i64 w0, .int .i64 w1, .int .i64 w2, .int .i64 w3, .int .i64 w4, .int .i64 m]) (fun w1' q => ?_)
  rw [q.1]; have B_t := q.2.1; have s_w1' := q.2.2.1; have u_w1' := q.2.2.2; clear q
  replace B_a := (B_a.below u_w1')
  have U := (u_w1_a0'.trans (u_w1'.mono u_w1_a0'.size))
  have S_w1' : w.heap.size + 2 ≤ w1'.heap.size := Nat.le_of_eq s_w1'.symm
  have V_w1' := (Below.refl w.heap.size w).trans (U.mono ((Below.refl w.heap.size w)).size)
  clear u_w1_a0' u_w1' s_w1_a0' s_w1' U
  go_loopw [10, 5] (fun v u wr => ∃ k : Nat, k ≤ 5 ∧ v = .int .i64 k ∧ u = .int .i64 (psum (kyI a) (w5 w0 w1 w2 w3 w4) 0 k) ∧ w1' = wr) (fun v _ _ => 5 - (intOf v).toNat)
  case atStart => exact ⟨0, by omega, rfl, rfl, rfl⟩
  case round =>
    obtain ⟨k, hk, rfl, rfl, rfl⟩ := hrel
    by_cases hlt : k < 5
    · have b1 := bV.out k (by omega)
      have b2 := bV.out (k + 1) (by omega)
      have e_a := B_a.all11
      obtain ⟨g, o, hka, c0⟩ := (LK.out.below V_w1').at k (by have := HK5.out; omega)
      have hc : a.keys.getD k 0 = kyI a k := rfl
      rw [hc] at c0
      clear hc
      subst hka
      have hki : (k : Int) < (x_kn : Int) := by have := HK5.out; omega
      have hcase : k = 0 ∨ k = 1 ∨ k = 2 ∨ k = 3 ∨ k = 4 := by omega
      rcases hcase with rfl | rfl | rfl | rfl | rfl
      · have hv : psum (kyI a) (w5 w0 w1 w2 w3 w4) 0 (0 + 1) = psum (kyI a) (w5 w0 w1 w2 w3 w4) 0 0 + w0 * kyI a 0 := rfl
        rw [hv] at b2
        replace hv := Lib.hid hv
        generalize psum (kyI a) (w5 w0 w1 w2 w3 w4) 0 0 = pv at *
        generalize kyI a 0 = xv at *
        have t1 : IntKind.i64.wrap (w0 * xv) = w0 * xv := IntWalk.i64_in _ (by omega)
        have t2 : IntKind.i64.wrap (pv + w0 * xv) = pv + w0 * xv := IntWalk.i64_in _ (by omega)
        clear b1 b2
        rw [show ((0 : Nat) : Int) = 0 from rfl] at *
        simp only [Nat.add_zero] at c0
        have ix : ∀ w' : World, (Instr.index 121 (.agg #[.int .i64 w0, .int .i64 w1, .int .i64 w2, .int .i64 w3, .int .i64 w4]) (.int .i64 0)).run Tryd.prog w' = .ok (.int .i64 w0) w' := fun _ => by kernel_rfl
        go_wp2
        go_roundw
        case rel => exact ⟨0 + 1, by omega, by go_num, by rw [hv.out], by first | rfl | trivial⟩
        case measure => simp [intOf]
      · have hv : psum (kyI a) (w5 w0 w1 w2 w3 w4) 0 (1 + 1) = psum (kyI a) (w5 w0 w1 w2 w3 w4) 0 1 + w1 * kyI a 1 := rfl
        rw [hv] at b2
        replace hv := Lib.hid hv
        generalize psum (kyI a) (w5 w0 w1 w2 w3 w4) 0 1 = pv at *
        generalize kyI a 1 = xv at *
        have t1 : IntKind.i64.wrap (w1 * xv) = w1 * xv := IntWalk.i64_in _ (by omega)
        have t2 : IntKind.i64.wrap (pv + w1 * xv) = pv + w1 * xv := IntWalk.i64_in _ (by omega)
        clear b1 b2
        rw [show ((1 : Nat) : Int) = 1 from rfl] at *
        skip
        have ix : ∀ w' : World, (Instr.index 121 (.agg #[.int .i64 w0, .int .i64 w1, .int .i64 w2, .int .i64 w3, .int .i64 w4]) (.int .i64 1)).run Tryd.prog w' = .ok (.int .i64 w1) w' := fun _ => by kernel_rfl
        go_wp2
        go_roundw
        case rel => exact ⟨1 + 1, by omega, by go_num, by rw [hv.out], by first | rfl | trivial⟩
        case measure => simp [intOf]
      · have hv : psum (kyI a) (w5 w0 w1 w2 w3 w4) 0 (2 + 1) = psum (kyI a) (w5 w0 w1 w2 w3 w4) 0 2 + w2 * kyI a 2 := rfl
        rw [hv] at b2
        replace hv := Lib.hid hv
        generalize psum (kyI a) (w5 w0 w1 w2 w3 w4) 0 2 = pv at *
        generalize kyI a 2 = xv at *
        have t1 : IntKind.i64.wrap (w2 * xv) = w2 * xv := IntWalk.i64_in _ (by omega)
        have t2 : IntKind.i64.wrap (pv + w2 * xv) = pv + w2 * xv := IntWalk.i64_in _ (by omega)
        clear b1 b2
        rw [show ((2 : Nat) : Int) = 2 from rfl] at *
        skip
        have ix : ∀ w' : World, (Instr.index 121 (.agg #[.int .i64 w0, .int .i64 w1, .int .i64 w2, .int .i64 w3, .int .i64 w4]) (.int .i64 2)).run Tryd.prog w' = .ok (.int .i64 w2) w' := fun _ => by kernel_rfl
        go_wp2
        go_roundw
        case rel => exact ⟨2 + 1, by omega, by go_num, by rw [hv.out], by first | rfl | trivial⟩
        case measure => simp [intOf]
      · have hv : psum (kyI a) (w5 w0 w1 w2 w3 w4) 0 (3 + 1) = psum (kyI a) (w5 w0 w1 w2 w3 w4) 0 3 + w3 * kyI a 3 := rfl
        rw [hv] at b2
        replace hv := Lib.hid hv
        generalize psum (kyI a) (w5 w0 w1 w2 w3 w4) 0 3 = pv at *
        generalize kyI a 3 = xv at *
        have t1 : IntKind.i64.wrap (w3 * xv) = w3 * xv := IntWalk.i64_in _ (by omega)
        have t2 : IntKind.i64.wrap (pv + w3 * xv) = pv + w3 * xv := IntWalk.i64_in _ (by omega)
        clear b1 b2
        rw [show ((3 : Nat) : Int) = 3 from rfl] at *
        skip
        have ix : ∀ w' : World, (Instr.index 121 (.agg #[.int .i64 w0, .int .i64 w1, .int .i64 w2, .int .i64 w3, .int .i64 w4]) (.int .i64 3)).run Tryd.prog w' = .ok (.int .i64 w3) w' := fun _ => by kernel_rfl
        go_wp2
        go_roundw
        case rel => exact ⟨3 + 1, by omega, by go_num, by rw [hv.out], by first | rfl | trivial⟩
        case measure => simp [intOf]
      · have hv : psum (kyI a) (w5 w0 w1 w2 w3 w4) 0 (4 + 1) = psum (kyI a) (w5 w0 w1 w2 w3 w4) 0 4 + w4 * kyI a 4 := rfl
        rw [hv] at b2
        replace hv := Lib.hid hv
        generalize psum (kyI a) (w5 w0 w1 w2 w3 w4) 0 4 = pv at *
        generalize kyI a 4 = xv at *
        have t1 : IntKind.i64.wrap (w4 * xv) = w4 * xv := IntWalk.i64_in _ (by omega)
        have t2 : IntKind.i64.wrap (pv + w4 * xv) = pv + w4 * xv := IntWalk.i64_in _ (by omega)
        clear b1 b2
        rw [show ((4 : Nat) : Int) = 4 from rfl] at *
        skip
        have ix : ∀ w' : World, (Instr.index 121 (.agg #[.int .i64 w0, .int .i64 w1, .int .i64 w2, .int .i64 w3, .int .i64 w4]) (.int .i64 4)).run Tryd.prog w' = .ok (.int .i64 w4) w' := fun _ => by kernel_rfl
        go_wp2
        go_roundw
        case rel => exact ⟨4 + 1, by omega, by go_num, by rw [hv.out], by first | rfl | trivial⟩
        case measure => simp [intOf]
    · obtain rfl : k = 5 := by omega
      have b1 := bV.out 5 (by omega)
      have e_a := B_a.all11
      have e_t_0 : w1'.cell? ⟨w.heap.size + 1, 0, none⟩ = some (.int .i64 w0) := B_t.cell 0
      have e_t_1 : w1'.cell? ⟨w.heap.size + 1, 1, none⟩ = some (.int .i64 w1) := B_t.cell 1
      have e_t_2 : w1'.cell? ⟨w.heap.size + 1, 2, none⟩ = some (.int .i64 w2) := B_t.cell 2
      have e_t_3 : w1'.cell? ⟨w.heap.size + 1, 3, none⟩ = some (.int .i64 w3) := B_t.cell 3
      have e_t_4 : w1'.cell? ⟨w.heap.size + 1, 4, none⟩ = some (.int .i64 w4) := B_t.cell 4
      have e_t_5 : w1'.cell? ⟨w.heap.size + 1, 5, none⟩ = some (.int .i64 m) := B_t.cell 5
      generalize psum (kyI a) (w5 w0 w1 w2 w3 w4) 0 5 = pv at *
      by_cases k0 : a.party = 1
      · rw [if_pos k0] at eV
        have k1 : ((a.party == 1) : Bool) = true := by simpa using k0
        have m1 : 0 ≤ m % a.P * a.delta := Int.mul_nonneg mm.1 hde.1
        have m2 : m % a.P * a.delta ≤ 1000 * 1000 := Int.mul_le_mul (by omega) (by omega) hde.1 (by omega)
        have t1 : IntKind.i64.wrap (m % a.P * a.delta) = m % a.P * a.delta := IntWalk.i64_in _ (by omega)
        have t2 : IntKind.i64.wrap (pv - m % a.P * a.delta) = pv - m % a.P * a.delta := IntWalk.i64_in _ (by omega)
        clear k0
        go_wp2
        go_quiet ((go_at_call 69; exact Calls.quiet_of_same (mod_same _ _ _ (by omega) (by omega))))
        go_wp2_with fail
        refine (mod_same _ _ _ (by omega) (by omega)).mono ?_; rintro e w' ⟨rfl, hw⟩
        go_wp2
        go_ret
        exact ⟨ret_int (by rw [eV.out, Int.sub_eq_add_neg]), by first | exact below_drewN V_w1' _ | (rw [hw]; exact below_drewN V_w1' _)⟩
      · rw [if_neg k0] at eV
        have k1 : ((a.party == 1) : Bool) = false := by simpa using k0
        clear k0
        go_wp2_with fail
        refine (mod_same _ _ _ (by omega) (by omega)).mono ?_; rintro e w' ⟨rfl, hw⟩
        go_wp2
        go_ret
        exact ⟨ret_int (by rw [eV.out, Int.add_zero]), by first | exact V_w1' | (rw [hw]; exact V_w1')⟩
end Go.Proofs.YtlmdckcohoddnaaDoor
namespace Go.Proofs.YtlmdckcohoddnaaDoor
open Go.RowKit
theorem Flat.lit (k n : Nat) (w : World) (l : List Int) (e : TypeId) (hl : l.length = n * k) (hn : n ≤ maxLen) : Flat k (w.alloc (.cells (l.map (Value.int .i64)).toArray e)) (some ⟨w.heap.size, 0, none⟩) n n l :=
  (OwnC.lit w w.heap.size n e k (l.map (Value.int .i64)) (Nat.le_refl _) (by simpa using hl) hn).row
def tm1 (a : Pl) : List Int := [1, 0, -1, 0, 0, f0 a, 0, 1, 0, -1, 0, f1 a]
def tm2 (a : Pl) : List Int := [0, 0, eI a, dI a, 1, dI a * eI a]
set_option maxHeartbeats 8000000 in
set_option maxRecDepth 100000 in
theorem terms_1 (a : Pl) (x : PlX) (w : World) (h : PlR w x a.shares a.keys a.heard) (hN : PlN a) (hs : 1 ≤ a.step) :
    Calls Tryd.prog 109 #[.agg #[.int .i64 a.P, .int .i64 a.party, .int .i64 a.input, .int .i64 a.mask, .int .i64 a.delta, .slice x.sa x.sn x.sc, .slice x.ka x.kn x.kc, .int .i64 a.step, .slice x.ha x.hn x.hc, .int .i64 a.status, .int .i64 a.out], .int .i64 1] w fun e w' => ∃ b c, e = .returned (.slice b 2 c) ∧ Flat 6 w' b 2 c (tm1 a) ∧ Below w.heap.size w w' := by
  go_enter Tryd.func109, Tryd.ntmps109
  go_wp2_with fail
  refine Exists.elim (Blk.new_ w (b := w.heap.size) rfl 31 #[.int .i64 a.P, .int .i64 a.party, .int .i64 a.input, .int .i64 a.mask, .int .i64 a.delta, .slice x.sa x.sn x.sc, .slice x.ka x.kn x.kc, .int .i64 a.step, .slice x.ha x.hn x.hc, .int .i64 a.status, .int .i64 a.out]) (fun w1' q => ?_)
  rw [q.1]; have B_a := q.2.1; have s_w1' := q.2.2.1; have u_w1' := q.2.2.2; clear q
  have S_w1' : w.heap.size + 1 ≤ w1'.heap.size := Nat.le_of_eq s_w1'.symm
  have V_w1' := (Below.refl w.heap.size w).trans (u_w1'.mono ((Below.refl w.heap.size w)).size)
  clear u_w1' s_w1'
  refine (masked_any a x _ (h.below V_w1') hN hs).mono ?_
  rintro e w2' ⟨rfl, u_w2'⟩
  replace B_a := B_a.below u_w2'
  have S_w2' := u_w2'.size
  have V_w2' : Below w.heap.size w w2' := V_w1'.trans (u_w2'.mono V_w1'.size)
  clear V_w1'
  clear u_w2'
  go_wp2
  go_ret
  exact ⟨_, _, rfl, Flat.lit 6 2 _ (tm1 a) _ (by rfl) (by decide), V_w2'.alloc V_w2'.size _⟩
set_option maxHeartbeats 16000000 in
set_option maxRecDepth 100000 in
theorem terms_2 (a : Pl) (x : PlX) (w : World) (h : PlR w x a.shares a.keys a.heard) (hN : PlN a) (hs : 2 ≤ a.step) :
    Calls Tryd.prog 109 #[.agg #[.int .i64 a.P, .int .i64 a.party, .int .i64 a.input, .int .i64 a.mask, .int .i64 a.delta, .slice x.sa x.sn x.sc, .slice x.ka x.kn x.kc, .int .i64 a.step, .slice x.ha x.hn x.hc, .int .i64 a.status, .int .i64 a.out], .int .i64 2] w fun e w' => ∃ b c, e = .returned (.slice b 1 c) ∧ Flat 6 w' b 1 c (tm2 a) ∧ Below w.heap.size w w' := by
  have hp1 := hN.p1
  have hp2 := hN.p2
  have hlen := hN.hl
  have q0 := f0_rng hN (by omega)
  have q1 := f1_rng hN (by omega)
  have hd0 := (hN.hb 1 (by omega)).2 0 (by decide)
  have hd2 := (hN.hb 1 (by omega)).2 2 (by decide)
  have rd := dI_rng hN
  have re := eI_rng hN
  have v0 := cmb_rng a.P (shV a) 1 0 (-1) 0 0 (mor a (f0 a)) (by omega)
  have v1 := cmb_rng a.P (shV a) 0 1 0 (-1) 0 (mor a (f1 a)) (by omega)
  change 0 ≤ seV0 a ∧ seV0 a ≤ a.P - 1 at v0
  change 0 ≤ seV1 a ∧ seV1 a ≤ a.P - 1 at v1
  have m1 : 0 ≤ dI a * eI a := Int.mul_nonneg rd.1 re.1
  have m2 : dI a * eI a ≤ 1000 * 1000 := Int.mul_le_mul (by omega) (by omega) re.1 (by omega)
  have CM := fun (W : World) (h2 : PlR W x a.shares a.keys a.heard) => masked_any a x W h2 hN (by omega)
  have C0 := fun (W : World) (h2 : PlR W x a.shares a.keys a.heard) => (show Calls Tryd.prog 110 #[.agg #[.int .i64 a.P, .int .i64 a.party, .int .i64 a.input, .int .i64 a.mask, .int .i64 a.delta, .slice x.sa x.sn x.sc, .slice x.ka x.kn x.kc, .int .i64 a.step, .slice x.ha x.hn x.hc, .int .i64 a.status, .int .i64 a.out], .agg #[.int .i64 1, .int .i64 0, .int .i64 (-1), .int .i64 0, .int .i64 0, .int .i64 (f0 a)]] W fun e w' => e = .returned (.agg #[.int .i64 (seV0 a), .int .i64 (seT0 a)]) ∧ Below W.heap.size W w' from own_any a x 1 0 (-1) 0 0 (f0 a) W h2 hN (fun i _ => by unfold w5; split <;> (try split) <;> (try split) <;> (try split) <;> omega) (by omega))
  have C1 := fun (W : World) (h2 : PlR W x a.shares a.keys a.heard) => (show Calls Tryd.prog 110 #[.agg #[.int .i64 a.P, .int .i64 a.party, .int .i64 a.input, .int .i64 a.mask, .int .i64 a.delta, .slice x.sa x.sn x.sc, .slice x.ka x.kn x.kc, .int .i64 a.step, .slice x.ha x.hn x.hc, .int .i64 a.status, .int .i64 a.out], .agg #[.int .i64 0, .int .i64 1, .int .i64 0, .int .i64 (-1), .int .i64 0, .int .i64 (f1 a)]] W fun e w' => e = .returned (.agg #[.int .i64 (seV1 a), .int .i64 (seT1 a)]) ∧ Below W.heap.size W w' from own_any a x 0 1 0 (-1) 0 (f1 a) W h2 hN (fun i _ => by unfold w5; split <;> (try split) <;> (try split) <;> (try split) <;> omega) (by omega))
  obtain ⟨hhn, g, o, r, hx, e0, inn, hr⟩ := h.hd 1 (by omega)
  have hrl := (hN.hb 1 (by omega)).1
  rw [← hr] at hrl
  have hrl' : r.2.2.length = 4 := hrl
  obtain ⟨g2, o2, hr1, e1⟩ := inn.at 0 (by omega)
  obtain ⟨g3, o3, hr3, e3⟩ := inn.at 2 (by omega)
  rw [hr1] at hr3
  cases hr3
  have hv : r.2.2.getD 0 0 = hdI a 1 0 := by rw [hr]; rfl
  have hv3 : r.2.2.getD 2 0 = hdI a 1 2 := by rw [hr]; rfl
  rw [hv] at e1
  rw [hv3] at e3
  rw [hr1, hrl'] at e0
  have hnp : (1 : Int) < (x.hn : Int) := by omega
  clear hr hrl hrl' hr1 hv hv3 inn hhn hlen hN hs
  simp only [Nat.add_zero] at e1
  obtain ⟨x_sa, x_sn, x_sc, x_ka, x_kn, x_kc, x_ha, x_hn, x_hc⟩ := x
  dsimp only at *
  subst hx
  have HD : Hid ((seV0 a + hdI a 1 0) % a.P = dI a) := Lib.hid rfl
  have HE : Hid ((seV1 a + hdI a 1 2) % a.P = eI a) := Lib.hid rfl
  replace CM := Lib.hid CM
  replace C0 := Lib.hid C0
  replace C1 := Lib.hid C1
  generalize hdI a 1 0 = y0 at *
  generalize hdI a 1 2 = y2 at *
  generalize seV0 a = z0 at *
  generalize seV1 a = z1 at *
  generalize seT0 a = s0 at *
  generalize seT1 a = s1 at *
  have t1 : IntKind.i64.wrap (z0 + y0) = z0 + y0 := IntWalk.i64_in _ (by omega)
  have t2 : IntKind.i64.wrap (z1 + y2) = z1 + y2 := IntWalk.i64_in _ (by omega)
  have t3 : IntKind.i64.wrap (dI a * eI a) = dI a * eI a := IntWalk.i64_in _ (by omega)
  have fx0 : ∀ w' : World, (Instr.field 81 (.agg #[.int .i64 z0, .int .i64 s0]) 0).run Tryd.prog w' = .ok (.int .i64 z0) w' := fun _ => by kernel_rfl
  have fx1 : ∀ w' : World, (Instr.field 81 (.agg #[.int .i64 z1, .int .i64 s1]) 0).run Tryd.prog w' = .ok (.int .i64 z1) w' := fun _ => by kernel_rfl
  clear q0 q1 hd0 hd2
  go_enter Tryd.func109, Tryd.ntmps109
  go_wp2_with fail
  refine Exists.elim (Blk.new_ w (b := w.heap.size) rfl 31 #[.int .i64 a.P, .int .i64 a.party, .int .i64 a.input, .int .i64 a.mask, .int .i64 a.delta, .slice x_sa x_sn x_sc, .slice x_ka x_kn x_kc, .int .i64 a.step, .slice (some ⟨g, o, none⟩) x_hn x_hc, .int .i64 a.status, .int .i64 a.out]) (fun w1' q => ?_)
  rw [q.1]; have B_a := q.2.1; have s_w1' := q.2.2.1; have u_w1' := q.2.2.2; clear q
  have S_w1' : w.heap.size + 1 ≤ w1'.heap.size := Nat.le_of_eq s_w1'.symm
  have V_w1' := (Below.refl w.heap.size w).trans (u_w1'.mono ((Below.refl w.heap.size w)).size)
  clear u_w1' s_w1'
  refine (CM.out _ (h.below V_w1')).mono ?_
  rintro e w2' ⟨rfl, u_w2'⟩
  replace B_a := B_a.below u_w2'
  have S_w2' := u_w2'.size
  have V_w2' : Below w.heap.size w w2' := V_w1'.trans (u_w2'.mono V_w1'.size)
  clear V_w1'
  clear u_w2'
  go_wp2
  refine Exists.elim (Blk.new_ w2' (b := w2'.heap.size) rfl 123 #[.int .i64 1, .int .i64 0, .int .i64 (-1), .int .i64 0, .int .i64 0, .int .i64 (f0 a), .int .i64 0, .int .i64 1, .int .i64 0, .int .i64 (-1), .int .i64 0, .int .i64 (f1 a)]) (fun w3' q => ?_)
  rw [q.1]; have B_z := q.2.1; have s_w3' := q.2.2.1; have u_w3' := q.2.2.2; clear q
  replace B_a := B_a.below u_w3'
  have S_w3' : w2'.heap.size + 1 ≤ w3'.heap.size := Nat.le_of_eq s_w3'.symm
  have V_w3' := V_w2'.trans (u_w3'.mono (V_w2').size)
  clear u_w3' s_w3' V_w2'
  generalize f0 a = F0 at *
  generalize f1 a = F1 at *
  have B_z' : Blk w3' ((w2'.heap.size)) 123 #[.int .i64 1, .int .i64 0, .int .i64 (-1), .int .i64 0, .int .i64 0, .int .i64 F0, .int .i64 0, .int .i64 1, .int .i64 0, .int .i64 (-1), .int .i64 0, .int .i64 F1] := B_z
  have e_a_0 : w3'.cell? ⟨w.heap.size, 0, none⟩ = some (.int .i64 a.P) := B_a.cell 0
  have e_a_1 : w3'.cell? ⟨w.heap.size, 1, none⟩ = some (.int .i64 a.party) := B_a.cell 1
  have e_a_2 : w3'.cell? ⟨w.heap.size, 2, none⟩ = some (.int .i64 a.input) := B_a.cell 2
  have e_a_3 : w3'.cell? ⟨w.heap.size, 3, none⟩ = some (.int .i64 a.mask) := B_a.cell 3
  have e_a_4 : w3'.cell? ⟨w.heap.size, 4, none⟩ = some (.int .i64 a.delta) := B_a.cell 4
  have e_a_5 : w3'.cell? ⟨w.heap.size, 5, none⟩ = some (.slice x_sa x_sn x_sc) := B_a.cell 5
  have e_a_6 : w3'.cell? ⟨w.heap.size, 6, none⟩ = some (.slice x_ka x_kn x_kc) := B_a.cell 6
  have e_a_7 : w3'.cell? ⟨w.heap.size, 7, none⟩ = some (.int .i64 a.step) := B_a.cell 7
  have e_a_8 : w3'.cell? ⟨w.heap.size, 8, none⟩ = some (.slice (some ⟨g, o, none⟩) x_hn x_hc) := B_a.cell 8
  have e_a_9 : w3'.cell? ⟨w.heap.size, 9, none⟩ = some (.int .i64 a.status) := B_a.cell 9
  have e_a_10 : w3'.cell? ⟨w.heap.size, 10, none⟩ = some (.int .i64 a.out) := B_a.cell 10
  have e_z_0 : w3'.cell? ⟨(w2'.heap.size), 0, none⟩ = some (.int .i64 1) := B_z'.cell 0
  have e_z_1 : w3'.cell? ⟨(w2'.heap.size), 1, none⟩ = some (.int .i64 0) := B_z'.cell 1
  have e_z_2 : w3'.cell? ⟨(w2'.heap.size), 2, none⟩ = some (.int .i64 (-1)) := B_z'.cell 2
  have e_z_3 : w3'.cell? ⟨(w2'.heap.size), 3, none⟩ = some (.int .i64 0) := B_z'.cell 3
  have e_z_4 : w3'.cell? ⟨(w2'.heap.size), 4, none⟩ = some (.int .i64 0) := B_z'.cell 4
  have e_z_5 : w3'.cell? ⟨(w2'.heap.size), 5, none⟩ = some (.int .i64 F0) := B_z'.cell 5
  have k0 := keepC V_w3' e0
  have k1 := keepC V_w3' e1
  have hR := h.below V_w3'.drew
  go_wp2
  go_region_held3 (fun W => W.cell? ⟨w.heap.size, 0, none⟩ = some (.int .i64 a.P) ∧ W.cell? ⟨w.heap.size, 1, none⟩ = some (.int .i64 a.party) ∧ W.cell? ⟨w.heap.size, 2, none⟩ = some (.int .i64 a.input) ∧ W.cell? ⟨w.heap.size, 3, none⟩ = some (.int .i64 a.mask) ∧ W.cell? ⟨w.heap.size, 4, none⟩ = some (.int .i64 a.delta) ∧ W.cell? ⟨w.heap.size, 5, none⟩ = some (.slice x_sa x_sn x_sc) ∧ W.cell? ⟨w.heap.size, 6, none⟩ = some (.slice x_ka x_kn x_kc) ∧ W.cell? ⟨w.heap.size, 7, none⟩ = some (.int .i64 a.step) ∧ W.cell? ⟨w.heap.size, 8, none⟩ = some (.slice (some ⟨g, o, none⟩) x_hn x_hc) ∧ W.cell? ⟨w.heap.size, 9, none⟩ = some (.int .i64 a.status) ∧ W.cell? ⟨w.heap.size, 10, none⟩ = some (.int .i64 a.out) ∧ W.cell? ⟨(w2'.heap.size), 0, none⟩ = some (.int .i64 1) ∧ W.cell? ⟨(w2'.heap.size), 1, none⟩ = some (.int .i64 0) ∧ W.cell? ⟨(w2'.heap.size), 2, none⟩ = some (.int .i64 (-1)) ∧ W.cell? ⟨(w2'.heap.size), 3, none⟩ = some (.int .i64 0) ∧ W.cell? ⟨(w2'.heap.size), 4, none⟩ = some (.int .i64 0) ∧ W.cell? ⟨(w2'.heap.size), 5, none⟩ = some (.int .i64 F0) ∧ W.cell? ⟨g, o + 1, none⟩ = some (.slice (some ⟨g2, o2, none⟩) 4 r.2.1) ∧ W.cell? ⟨g2, o2, none⟩ = some (.int .i64 y0))
    (first | exact ⟨keepC u (e_a_0), keepC u (e_a_1), keepC u (e_a_2), keepC u (e_a_3), keepC u (e_a_4), keepC u (e_a_5), keepC u (e_a_6), keepC u (e_a_7), keepC u (e_a_8), keepC u (e_a_9), keepC u (e_a_10), keepC u (e_z_0), keepC u (e_z_1), keepC u (e_z_2), keepC u (e_z_3), keepC u (e_z_4), keepC u (e_z_5), keepC u (k0), keepC u (k1)⟩ | go_keep)
    (first | (go_at_call 110; refine (C0.out _ hR).mono ?_; rintro e wz0 ⟨rfl, u⟩) | (go_at_call 69; refine (mod_same _ _ _ (by omega) (by omega)).mono ?_; rintro e w' ⟨rfl, hw⟩; replace hw := hw.symm; subst hw))
  rw [HD.out]
  have u9 : Below w3'.heap.size w3' wz0 := (Below.refl _ _).drew.trans u
  clear u hR k0 k1 e_a_0 e_a_1 e_a_2 e_a_3 e_a_4 e_a_5 e_a_6 e_a_7 e_a_8 e_a_9 e_a_10 e_z_0 e_z_1 e_z_2 e_z_3 e_z_4 e_z_5
  replace B_z' := B_z'.below u9
  replace B_a := B_a.below u9
  replace B_z := B_z.below u9
  have S_wz0 := u9.size
  have V_wz0 : Below w.heap.size w wz0 := V_w3'.trans (u9.mono V_w3'.size)
  clear V_w3'
  clear u9
  go_wp2
  have e_a_0 : wz0.cell? ⟨w.heap.size, 0, none⟩ = some (.int .i64 a.P) := B_a.cell 0
  have e_a_1 : wz0.cell? ⟨w.heap.size, 1, none⟩ = some (.int .i64 a.party) := B_a.cell 1
  have e_a_2 : wz0.cell? ⟨w.heap.size, 2, none⟩ = some (.int .i64 a.input) := B_a.cell 2
  have e_a_3 : wz0.cell? ⟨w.heap.size, 3, none⟩ = some (.int .i64 a.mask) := B_a.cell 3
  have e_a_4 : wz0.cell? ⟨w.heap.size, 4, none⟩ = some (.int .i64 a.delta) := B_a.cell 4
  have e_a_5 : wz0.cell? ⟨w.heap.size, 5, none⟩ = some (.slice x_sa x_sn x_sc) := B_a.cell 5
  have e_a_6 : wz0.cell? ⟨w.heap.size, 6, none⟩ = some (.slice x_ka x_kn x_kc) := B_a.cell 6
  have e_a_7 : wz0.cell? ⟨w.heap.size, 7, none⟩ = some (.int .i64 a.step) := B_a.cell 7
  have e_a_8 : wz0.cell? ⟨w.heap.size, 8, none⟩ = some (.slice (some ⟨g, o, none⟩) x_hn x_hc) := B_a.cell 8
  have e_a_9 : wz0.cell? ⟨w.heap.size, 9, none⟩ = some (.int .i64 a.status) := B_a.cell 9
  have e_a_10 : wz0.cell? ⟨w.heap.size, 10, none⟩ = some (.int .i64 a.out) := B_a.cell 10
  have e_z_6 : wz0.cell? ⟨(w2'.heap.size), 6, none⟩ = some (.int .i64 0) := B_z'.cell 6
  have e_z_7 : wz0.cell? ⟨(w2'.heap.size), 7, none⟩ = some (.int .i64 1) := B_z'.cell 7
  have e_z_8 : wz0.cell? ⟨(w2'.heap.size), 8, none⟩ = some (.int .i64 0) := B_z'.cell 8
  have e_z_9 : wz0.cell? ⟨(w2'.heap.size), 9, none⟩ = some (.int .i64 (-1)) := B_z'.cell 9
  have e_z_10 : wz0.cell? ⟨(w2'.heap.size), 10, none⟩ = some (.int .i64 0) := B_z'.cell 10
  have e_z_11 : wz0.cell? ⟨(w2'.heap.size), 11, none⟩ = some (.int .i64 F1) := B_z'.cell 11
  have k0 := keepC V_wz0 e0
  have k1 := keepC V_wz0 e3
  have hR := h.below V_wz0.drew
  go_region_held3 (fun W => W.cell? ⟨w.heap.size, 0, none⟩ = some (.int .i64 a.P) ∧ W.cell? ⟨w.heap.size, 1, none⟩ = some (.int .i64 a.party) ∧ W.cell? ⟨w.heap.size, 2, none⟩ = some (.int .i64 a.input) ∧ W.cell? ⟨w.heap.size, 3, none⟩ = some (.int .i64 a.mask) ∧ W.cell? ⟨w.heap.size, 4, none⟩ = some (.int .i64 a.delta) ∧ W.cell? ⟨w.heap.size, 5, none⟩ = some (.slice x_sa x_sn x_sc) ∧ W.cell? ⟨w.heap.size, 6, none⟩ = some (.slice x_ka x_kn x_kc) ∧ W.cell? ⟨w.heap.size, 7, none⟩ = some (.int .i64 a.step) ∧ W.cell? ⟨w.heap.size, 8, none⟩ = some (.slice (some ⟨g, o, none⟩) x_hn x_hc) ∧ W.cell? ⟨w.heap.size, 9, none⟩ = some (.int .i64 a.status) ∧ W.cell? ⟨w.heap.size, 10, none⟩ = some (.int .i64 a.out) ∧ W.cell? ⟨(w2'.heap.size), 6, none⟩ = some (.int .i64 0) ∧ W.cell? ⟨(w2'.heap.size), 7, none⟩ = some (.int .i64 1) ∧ W.cell? ⟨(w2'.heap.size), 8, none⟩ = some (.int .i64 0) ∧ W.cell? ⟨(w2'.heap.size), 9, none⟩ = some (.int .i64 (-1)) ∧ W.cell? ⟨(w2'.heap.size), 10, none⟩ = some (.int .i64 0) ∧ W.cell? ⟨(w2'.heap.size), 11, none⟩ = some (.int .i64 F1) ∧ W.cell? ⟨g, o + 1, none⟩ = some (.slice (some ⟨g2, o2, none⟩) 4 r.2.1) ∧ W.cell? ⟨g2, o2 + 2, none⟩ = some (.int .i64 y2))
    (first | exact ⟨keepC u (e_a_0), keepC u (e_a_1), keepC u (e_a_2), keepC u (e_a_3), keepC u (e_a_4), keepC u (e_a_5), keepC u (e_a_6), keepC u (e_a_7), keepC u (e_a_8), keepC u (e_a_9), keepC u (e_a_10), keepC u (e_z_6), keepC u (e_z_7), keepC u (e_z_8), keepC u (e_z_9), keepC u (e_z_10), keepC u (e_z_11), keepC u (k0), keepC u (k1)⟩ | go_keep)
    (first | (go_at_call 110; refine (C1.out _ hR).mono ?_; rintro e wz1 ⟨rfl, u⟩) | (go_at_call 69; refine (mod_same _ _ _ (by omega) (by omega)).mono ?_; rintro e w' ⟨rfl, hw⟩; replace hw := hw.symm; subst hw))
  rw [HE.out]
  have u9 : Below wz0.heap.size wz0 wz1 := (Below.refl _ _).drew.trans u
  clear u hR k0 k1 e_a_0 e_a_1 e_a_2 e_a_3 e_a_4 e_a_5 e_a_6 e_a_7 e_a_8 e_a_9 e_a_10 e_z_6 e_z_7 e_z_8 e_z_9 e_z_10 e_z_11
  replace B_z' := B_z'.below u9
  replace B_a := B_a.below u9
  replace B_z := B_z.below u9
  have S_wz1 := u9.size
  have V_wz1 : Below w.heap.size w wz1 := V_wz0.trans (u9.mono V_wz0.size)
  clear V_wz0
  clear u9
  go_wp2
  go_ret
  exact ⟨_, _, rfl, Flat.lit 6 1 _ (tm2 a) _ (by rfl) (by decide), V_wz1.alloc V_wz1.size _⟩
end Go.Proofs.YtlmdckcohoddnaaDoor
namespace Go.Proofs.YtlmdckcohoddnaaDoor
open Go.RowKit
theorem keepS {w wz : World} {q : Addr} {v : Value} (h0 : w.cell? q = some v) (i : Nat) (u : Value) (h : wz.cell? q = some v) : (wz.setCell ⟨w.heap.size, i, none⟩ u).cell? q = some v :=
  cellFar h (by have := World.block_lt_of_cell? w _ h0; show q.block ≠ w.heap.size; omega)
set_option maxHeartbeats 16000000 in
set_option maxRecDepth 100000 in
theorem ptSecond_any (a : Pl) (x : PlX) (w : World) (h : PlR w x a.shares a.keys a.heard) (hN : PlN a) (hs : 1 ≤ a.step) :
    Calls Tryd.prog 133 #[.agg #[.int .i64 a.P, .int .i64 a.party, .int .i64 a.input, .int .i64 a.mask, .int .i64 a.delta, .slice x.sa x.sn x.sc, .slice x.ka x.kn x.kc, .int .i64 a.step, .slice x.ha x.hn x.hc, .int .i64 a.status, .int .i64 a.out]] w fun e w' => ∃ b c, e = .returned (.slice b 2 c) ∧ Flat 2 w' b 2 c [seV0 a, seT0 a, seV1 a, seT1 a] ∧ Below w.heap.size w w' := by
  have hp1 := hN.p1
  have hp2 := hN.p2
  have q0 := f0_rng hN hs
  have q1 := f1_rng hN hs
  have LH := Lib.hid h
  have CF := Lib.hid (fun (W : World) (h2 : PlR W x a.shares a.keys a.heard) => ptFirst_any a x W h2 hN hs)
  have rv0 := hN.sv 0 (by omega)
  have rt0 := hN.st 0 (by omega)
  have rv2 := hN.sv 2 (by omega)
  have rt2 := hN.st 2 (by omega)
  have rs0 := shfV_rng hN (shV a 0) (f0 a) rv0
  have CS0 := Lib.hid (fun (W : World) => ptShift_any a x (shV a 0) (shT a 0) (f0 a) W hN (by omega) (by omega))
  have CA0 := Lib.hid (fun (W : World) => (show Calls Tryd.prog 142 #[.int .i64 a.P, .agg #[.int .i64 (shfV a (shV a 0) (f0 a)), .int .i64 (shT a 0)], .agg #[.int .i64 (shV a 2), .int .i64 (shT a 2)], .int .i64 (a.P - 1)] W fun e w' => e = .returned (.agg #[.int .i64 (seV0 a), .int .i64 (seT0 a)]) ∧ Below W.heap.size W w' by rw [← seV0_eq hN, ← seT0_eq]; exact tgAdd_any a.P (shfV a (shV a 0) (f0 a)) (shT a 0) (shV a 2) (shT a 2) (a.P - 1) W (by omega) (by omega) rs0 rt0 rv2 rt2 (by omega)))
  have rv1 := hN.sv 1 (by omega)
  have rt1 := hN.st 1 (by omega)
  have rv3 := hN.sv 3 (by omega)
  have rt3 := hN.st 3 (by omega)
  have rs1 := shfV_rng hN (shV a 1) (f1 a) rv1
  have CS1 := Lib.hid (fun (W : World) => ptShift_any a x (shV a 1) (shT a 1) (f1 a) W hN (by omega) (by omega))
  have CA1 := Lib.hid (fun (W : World) => (show Calls Tryd.prog 142 #[.int .i64 a.P, .agg #[.int .i64 (shfV a (shV a 1) (f1 a)), .int .i64 (shT a 1)], .agg #[.int .i64 (shV a 3), .int .i64 (shT a 3)], .int .i64 (a.P - 1)] W fun e w' => e = .returned (.agg #[.int .i64 (seV1 a), .int .i64 (seT1 a)]) ∧ Below W.heap.size W w' by rw [← seV1_eq hN, ← seT1_eq]; exact tgAdd_any a.P (shfV a (shV a 1) (f1 a)) (shT a 1) (shV a 3) (shT a 3) (a.P - 1) W (by omega) (by omega) rs1 rt1 rv3 rt3 (by omega)))
  have t1 : IntKind.i64.wrap (a.P - 1) = a.P - 1 := IntWalk.i64_in _ (by omega)
  have sw0 : IntKind.i64.wrap 0 = 0 := IntWalk.i64_in _ (by omega)
  have sw1 : IntKind.i64.wrap 1 = 1 := IntWalk.i64_in _ (by omega)
  have sw2 : IntKind.i64.wrap 2 = 2 := IntWalk.i64_in _ (by omega)
  have sw3 : IntKind.i64.wrap 3 = 3 := IntWalk.i64_in _ (by omega)
  obtain ⟨hS, _⟩ := h
  have hs5 : x.sn = 5 := by have := hS.len; have := hN.sl; omega
  obtain ⟨gs, os, hsa, hc⟩ := hS.at (by omega)
  have hsn : (x.sn : Int) = 5 := by omega
  have y0 : w.cell? ⟨gs, os, none⟩ = some (.int .i64 (shV a 0)) := hc 0 (by omega)
  have y1 : w.cell? ⟨gs, os + 1, none⟩ = some (.int .i64 (shT a 0)) := hc 1 (by omega)
  have y2 : w.cell? ⟨gs, os + 2, none⟩ = some (.int .i64 (shV a 1)) := hc 2 (by omega)
  have y3 : w.cell? ⟨gs, os + 3, none⟩ = some (.int .i64 (shT a 1)) := hc 3 (by omega)
  have y4 : w.cell? ⟨gs, os + 4, none⟩ = some (.int .i64 (shV a 2)) := hc 4 (by omega)
  have y5 : w.cell? ⟨gs, os + 5, none⟩ = some (.int .i64 (shT a 2)) := hc 5 (by omega)
  have y6 : w.cell? ⟨gs, os + 6, none⟩ = some (.int .i64 (shV a 3)) := hc 6 (by omega)
  have y7 : w.cell? ⟨gs, os + 7, none⟩ = some (.int .i64 (shT a 3)) := hc 7 (by omega)
  clear hc hS hN hs
  obtain ⟨x_sa, x_sn, x_sc, x_ka, x_kn, x_kc, x_ha, x_hn, x_hc⟩ := x
  dsimp only at *
  subst hsa
  subst hs5
  go_enter Tryd.func133, Tryd.ntmps133
  go_wp2_with fail
  refine Exists.elim (Blk.new_ w (b := w.heap.size) rfl 31 #[.int .i64 a.P, .int .i64 a.party, .int .i64 a.input, .int .i64 a.mask, .int .i64 a.delta, .slice (some ⟨gs, os, none⟩) 5 x_sc, .slice x_ka x_kn x_kc, .int .i64 a.step, .slice x_ha x_hn x_hc, .int .i64 a.status, .int .i64 a.out]) (fun w1' q => ?_)
  rw [q.1]; have B_a := q.2.1; have s_w1' := q.2.2.1; have u_w1' := q.2.2.2; clear q
  have S_w1' : w.heap.size + 1 ≤ w1'.heap.size := Nat.le_of_eq s_w1'.symm
  have V_w1' := (Below.refl w.heap.size w).trans (u_w1'.mono ((Below.refl w.heap.size w)).size)
  clear u_w1' s_w1'
  refine (CF.out _ (LH.out.below V_w1')).mono ?_
  rintro e w2' ⟨bf, cf, rfl, hf, u_w2'⟩
  replace B_a := B_a.below u_w2'
  have S_w2' := u_w2'.size
  have V_w2' : Below w.heap.size w w2' := V_w1'.trans (u_w2'.mono V_w1'.size)
  clear V_w1'
  clear u_w2'
  obtain ⟨gf, of, rfl, hfc⟩ := hf.cells (by omega)
  have z0 := hfc 0 (by omega)
  have z1 := hfc 1 (by omega)
  rw [Nat.add_zero] at z0
  change w2'.cell? ⟨gf, of, none⟩ = some (.int .i64 (f0 a)) at z0
  change w2'.cell? ⟨gf, of + 1, none⟩ = some (.int .i64 (f1 a)) at z1
  clear hfc hf
  have VB := V_w2'
  have SB := V_w2'.size
  go_wp2
  go_loopw [4, 5] (fun u v wr => ∃ k : Nat, k ≤ 2 ∧ v = .int .i64 k ∧ Below w2'.heap.size w2' wr ∧ ∃ c5 d5, u = .slice c5 k d5 ∧ OwnF 2 eTagged wr w2'.heap.size c5 k d5 ([seV0 a, seT0 a, seV1 a, seT1 a].take (2 * k))) (fun _ v _ => 2 - (intOf v).toNat)
  case atStart => exact ⟨0, by omega, rfl, Below.refl _ _, _, _, rfl, OwnC.nil0 _ _ _ _ _⟩
  case round =>
    obtain ⟨k, hk, rfl, hbel, c5, d5, rfl, own⟩ := hrel
    have B_a := B_a.below hbel
    have V_wr := V_w2'.trans (hbel.mono V_w2'.size)
    have S_wr := hbel.size
    by_cases hlt : k < 2
    · have hcase : k = 0 ∨ k = 1 := by omega
      rcases hcase with rfl | rfl
      · skip
        have own' : OwnF 2 eTagged wr w2'.heap.size c5 0 d5 [] := own
        clear own
        rw [show ((0 : Nat) : Int) = 0 from rfl]
        have QF := Lib.hid own'.feet
        have ga := World.block_lt_of_cell? w _ y0
        dsimp only at ga
        have Na : w.heap.size ∉ foot c5 d5 := fun hq => by have := QF.out _ hq; have := S_w1'; have := S_w2'; omega
        have Ng : gs ∉ foot c5 d5 := fun hq => by have := QF.out _ hq; have := SB; omega
        have SR : w2'.heap.size ≤ wr.heap.size := hbel.size
        have p0 := keepC V_wr y0
        have p1 := keepC V_wr y1
        have p2 := keepC V_wr y4
        have p3 := keepC V_wr y5
        have p4 := keepC hbel z0
        go_wp2
        have e_a_0 := B_a.a11_0
        have e_a_1 := B_a.a11_1
        have e_a_2 := B_a.a11_2
        have e_a_3 := B_a.a11_3
        have e_a_4 := B_a.a11_4
        have e_a_5 := B_a.a11_5
        have e_a_6 := B_a.a11_6
        have e_a_7 := B_a.a11_7
        have e_a_8 := B_a.a11_8
        have e_a_9 := B_a.a11_9
        have e_a_10 := B_a.a11_10
        go_region_held3 (fun W => W.cell? ⟨w.heap.size, 0, none⟩ = some (.int .i64 a.P) ∧ W.cell? ⟨w.heap.size, 1, none⟩ = some (.int .i64 a.party) ∧ W.cell? ⟨w.heap.size, 2, none⟩ = some (.int .i64 a.input) ∧ W.cell? ⟨w.heap.size, 3, none⟩ = some (.int .i64 a.mask) ∧ W.cell? ⟨w.heap.size, 4, none⟩ = some (.int .i64 a.delta) ∧ W.cell? ⟨w.heap.size, 5, none⟩ = some (.slice (some ⟨gs, os, none⟩) 5 x_sc) ∧ W.cell? ⟨w.heap.size, 6, none⟩ = some (.slice x_ka x_kn x_kc) ∧ W.cell? ⟨w.heap.size, 7, none⟩ = some (.int .i64 a.step) ∧ W.cell? ⟨w.heap.size, 8, none⟩ = some (.slice x_ha x_hn x_hc) ∧ W.cell? ⟨w.heap.size, 9, none⟩ = some (.int .i64 a.status) ∧ W.cell? ⟨w.heap.size, 10, none⟩ = some (.int .i64 a.out) ∧ W.cell? ⟨gs, os, none⟩ = some (.int .i64 (shV a 0)) ∧ W.cell? ⟨gs, os + 1, none⟩ = some (.int .i64 (shT a 0)) ∧ W.cell? ⟨gf, of, none⟩ = some (.int .i64 (f0 a)))
          (first | exact ⟨e_a, p0, p1, p4⟩ | exact ⟨keepA _ e_a_0, keepA _ e_a_1, keepA _ e_a_2, keepA _ e_a_3, keepA _ e_a_4, keepA _ e_a_5, keepA _ e_a_6, keepA _ e_a_7, keepA _ e_a_8, keepA _ e_a_9, keepA _ e_a_10, keepA _ p0, keepA _ p1, keepA _ p4⟩ | exact ⟨keepC u (keepA _ e_a_0), keepC u (keepA _ e_a_1), keepC u (keepA _ e_a_2), keepC u (keepA _ e_a_3), keepC u (keepA _ e_a_4), keepC u (keepA _ e_a_5), keepC u (keepA _ e_a_6), keepC u (keepA _ e_a_7), keepC u (keepA _ e_a_8), keepC u (keepA _ e_a_9), keepC u (keepA _ e_a_10), keepC u (keepA _ p0), keepC u (keepA _ p1), keepC u (keepA _ p4)⟩ | exact ⟨keepC u e_a_0, keepC u e_a_1, keepC u e_a_2, keepC u e_a_3, keepC u e_a_4, keepC u e_a_5, keepC u e_a_6, keepC u e_a_7, keepC u e_a_8, keepC u e_a_9, keepC u e_a_10, keepC u p0, keepC u p1, keepC u p4⟩ | exact ⟨keepA _ (keepC u e_a_0), keepA _ (keepC u e_a_1), keepA _ (keepC u e_a_2), keepA _ (keepC u e_a_3), keepA _ (keepC u e_a_4), keepA _ (keepC u e_a_5), keepA _ (keepC u e_a_6), keepA _ (keepC u e_a_7), keepA _ (keepC u e_a_8), keepA _ (keepC u e_a_9), keepA _ (keepC u e_a_10), keepA _ (keepC u p0), keepA _ (keepC u p1), keepA _ (keepC u p4)⟩ | exact ⟨keepS e_a_0 _ _ (keepS e_a_0 _ _ (keepC u (keepA _ e_a_0))), keepS e_a_1 _ _ (keepS e_a_1 _ _ (keepC u (keepA _ e_a_1))), keepS e_a_2 _ _ (keepS e_a_2 _ _ (keepC u (keepA _ e_a_2))), keepS e_a_3 _ _ (keepS e_a_3 _ _ (keepC u (keepA _ e_a_3))), keepS e_a_4 _ _ (keepS e_a_4 _ _ (keepC u (keepA _ e_a_4))), keepS e_a_5 _ _ (keepS e_a_5 _ _ (keepC u (keepA _ e_a_5))), keepS e_a_6 _ _ (keepS e_a_6 _ _ (keepC u (keepA _ e_a_6))), keepS e_a_7 _ _ (keepS e_a_7 _ _ (keepC u (keepA _ e_a_7))), keepS e_a_8 _ _ (keepS e_a_8 _ _ (keepC u (keepA _ e_a_8))), keepS e_a_9 _ _ (keepS e_a_9 _ _ (keepC u (keepA _ e_a_9))), keepS e_a_10 _ _ (keepS e_a_10 _ _ (keepC u (keepA _ e_a_10))), keepS p0 _ _ (keepS p0 _ _ (keepC u (keepA _ p0))), keepS p1 _ _ (keepS p1 _ _ (keepC u (keepA _ p1))), keepS p4 _ _ (keepS p4 _ _ (keepC u (keepA _ p4)))⟩ | go_keep)
          (first | (go_at_call 143; refine (CS0.out _).mono ?_; rintro e wz ⟨rfl, u⟩; have BO : Blk wz wr.heap.size 81 #[.int .i64 0, .int .i64 0] := Blk.below (Blk.new wr 81 #[.int .i64 0, .int .i64 0]).drew u; have bo0 : wz.cell? ⟨wr.heap.size, 0, none⟩ = some (.int .i64 0) := BO.cell 0; have bf0 : wz.frozen? ⟨wr.heap.size, 0, none⟩ = false := BO.frozen 0; have bo1 : wz.cell? ⟨wr.heap.size, 1, none⟩ = some (.int .i64 0) := BO.cell 1; have bf1 : wz.frozen? ⟨wr.heap.size, 1, none⟩ = false := BO.frozen 1) | (go_at_call 143; refine (CS0.out _).mono ?_; rintro e wz ⟨rfl, u⟩))
        all_goals first
          | (have u1 : Below wr.heap.size wr wz := ((Below.refl _ wr).alloc (Nat.le_refl _) (.cells #[.int .i64 0, .int .i64 0] 81)).drew.trans (u.mono (by simp))
             have G : Only [wr.heap.size] wz ((wz.setCell ⟨wr.heap.size, 0, none⟩ (.int .i64 (shfV a (shV a 0) (f0 a)))).setCell ⟨wr.heap.size, 1, none⟩ (.int .i64 (shT a 0))) := (((Only.refl [wr.heap.size] wz).setCell ⟨wr.heap.size, 0, none⟩ (.int .i64 (shfV a (shV a 0) (f0 a))) (by simp)).setCell ⟨wr.heap.size, 1, none⟩ (.int .i64 (shT a 0)) (by simp))
             have hV : Below wr.heap.size wr ((wz.setCell ⟨wr.heap.size, 0, none⟩ (.int .i64 (shfV a (shV a 0) (f0 a)))).setCell ⟨wr.heap.size, 1, none⟩ (.int .i64 (shT a 0))) := u1.trans (G.below u1.size (fun q hq => by simp at hq; omega))
             have B_y : Blk ((wz.setCell ⟨wr.heap.size, 0, none⟩ (.int .i64 (shfV a (shV a 0) (f0 a)))).setCell ⟨wr.heap.size, 1, none⟩ (.int .i64 (shT a 0))) wr.heap.size 81 #[.int .i64 (shfV a (shV a 0) (f0 a)), .int .i64 (shT a 0)] := ((BO.set_ 0 (.int .i64 (shfV a (shV a 0) (f0 a)))).set_ 1 (.int .i64 (shT a 0)))
             have hob : wr.heap.size ≤ wr.heap.size := Nat.le_refl _
             clear G u1 u BO bo0 bf0 bo1 bf1
             generalize ((wz.setCell ⟨wr.heap.size, 0, none⟩ (.int .i64 (shfV a (shV a 0) (f0 a)))).setCell ⟨wr.heap.size, 1, none⟩ (.int .i64 (shT a 0))) = WW at *
             generalize hob' : wr.heap.size = ob at B_y ⊢
             rw [hob'] at hob
             replace hob : wr.heap.size ≤ ob := by omega
             clear hob')
          | (have u1 : Below wr.heap.size wr wz := (Below.refl _ wr).drew.trans u
             have hV : Below wr.heap.size wr (wz.alloc (.cells #[.int .i64 (shfV a (shV a 0) (f0 a)), .int .i64 (shT a 0)] 81)) := u1.alloc u1.size _
             have B_y : Blk (wz.alloc (.cells #[.int .i64 (shfV a (shV a 0) (f0 a)), .int .i64 (shT a 0)] 81)) wz.heap.size 81 #[.int .i64 (shfV a (shV a 0) (f0 a)), .int .i64 (shT a 0)] := Blk.new _ _ _
             have hob : wr.heap.size ≤ wz.heap.size := u1.size
             clear u1 u
             generalize wz.alloc (.cells #[.int .i64 (shfV a (shV a 0) (f0 a)), .int .i64 (shT a 0)] 81) = WW at *
             generalize wz.heap.size = ob at *)
        all_goals
          have hb9 := hbel.trans (hV.mono hbel.size)
          have No : ob ∉ foot c5 d5 := fun hq => by have := (QF.out _ hq).2; omega
          have r2 := keepC hV p2
          have r3 := keepC hV p3
          clear p0 p1 p2 p3 p4
          clear e_a_0 e_a_1 e_a_2 e_a_3 e_a_4 e_a_5 e_a_6 e_a_7 e_a_8 e_a_9 e_a_10
          replace B_a := B_a.below hV
          replace own' := own'.below hV
          have S_WW := hV.size
          have V_WW : Below w.heap.size w WW := V_wr.trans (hV.mono V_wr.size)
          clear V_wr
          clear hV
          have e_a_0 := B_a.a11_0
          have e_a_1 := B_a.a11_1
          have e_a_2 := B_a.a11_2
          have e_a_3 := B_a.a11_3
          have e_a_4 := B_a.a11_4
          have e_a_5 := B_a.a11_5
          have e_a_6 := B_a.a11_6
          have e_a_7 := B_a.a11_7
          have e_a_8 := B_a.a11_8
          have e_a_9 := B_a.a11_9
          have e_a_10 := B_a.a11_10
          have e_y_0 := B_y.a2_0
          have e_y_1 := B_y.a2_1
          go_wp2
          go_region_held3 (fun W => W.cell? ⟨w.heap.size, 0, none⟩ = some (.int .i64 a.P) ∧ W.cell? ⟨w.heap.size, 1, none⟩ = some (.int .i64 a.party) ∧ W.cell? ⟨w.heap.size, 2, none⟩ = some (.int .i64 a.input) ∧ W.cell? ⟨w.heap.size, 3, none⟩ = some (.int .i64 a.mask) ∧ W.cell? ⟨w.heap.size, 4, none⟩ = some (.int .i64 a.delta) ∧ W.cell? ⟨w.heap.size, 5, none⟩ = some (.slice (some ⟨gs, os, none⟩) 5 x_sc) ∧ W.cell? ⟨w.heap.size, 6, none⟩ = some (.slice x_ka x_kn x_kc) ∧ W.cell? ⟨w.heap.size, 7, none⟩ = some (.int .i64 a.step) ∧ W.cell? ⟨w.heap.size, 8, none⟩ = some (.slice x_ha x_hn x_hc) ∧ W.cell? ⟨w.heap.size, 9, none⟩ = some (.int .i64 a.status) ∧ W.cell? ⟨w.heap.size, 10, none⟩ = some (.int .i64 a.out) ∧ W.cell? ⟨ob, 0, none⟩ = some (.int .i64 (shfV a (shV a 0) (f0 a))) ∧ W.cell? ⟨ob, 1, none⟩ = some (.int .i64 (shT a 0)) ∧ W.cell? ⟨gs, os + 4, none⟩ = some (.int .i64 (shV a 2)) ∧ W.cell? ⟨gs, os + 5, none⟩ = some (.int .i64 (shT a 2)))
            (first | exact ⟨e_a, e_y, r2, r3⟩ | exact ⟨keepC u e_a_0, keepC u e_a_1, keepC u e_a_2, keepC u e_a_3, keepC u e_a_4, keepC u e_a_5, keepC u e_a_6, keepC u e_a_7, keepC u e_a_8, keepC u e_a_9, keepC u e_a_10, keepC u e_y_0, keepC u e_y_1, keepC u r2, keepC u r3⟩ | exact ⟨keepA _ (keepC u e_a_0), keepA _ (keepC u e_a_1), keepA _ (keepC u e_a_2), keepA _ (keepC u e_a_3), keepA _ (keepC u e_a_4), keepA _ (keepC u e_a_5), keepA _ (keepC u e_a_6), keepA _ (keepC u e_a_7), keepA _ (keepC u e_a_8), keepA _ (keepC u e_a_9), keepA _ (keepC u e_a_10), keepA _ (keepC u e_y_0), keepA _ (keepC u e_y_1), keepA _ (keepC u r2), keepA _ (keepC u r3)⟩ | exact ⟨keepGr g6 Na (keepA _ (keepC u e_a_0)), keepGr g6 Na (keepA _ (keepC u e_a_1)), keepGr g6 Na (keepA _ (keepC u e_a_2)), keepGr g6 Na (keepA _ (keepC u e_a_3)), keepGr g6 Na (keepA _ (keepC u e_a_4)), keepGr g6 Na (keepA _ (keepC u e_a_5)), keepGr g6 Na (keepA _ (keepC u e_a_6)), keepGr g6 Na (keepA _ (keepC u e_a_7)), keepGr g6 Na (keepA _ (keepC u e_a_8)), keepGr g6 Na (keepA _ (keepC u e_a_9)), keepGr g6 Na (keepA _ (keepC u e_a_10)), keepGr g6 No (keepA _ (keepC u e_y_0)), keepGr g6 No (keepA _ (keepC u e_y_1)), keepGr g6 Ng (keepA _ (keepC u r2)), keepGr g6 Ng (keepA _ (keepC u r3))⟩ | go_keep)
            (first | (go_at_call 142; refine (CA0.out _).mono ?_; rintro e wz ⟨rfl, u⟩; have own2 := own'.below ((Below.refl _ _).drew.trans u); have SZ : WW.heap.size ≤ wz.heap.size := u.size) | (refine step_appT (by rfl) _ _ (by rfl) w2'.heap.size c5 0 d5 _ (by rfl) (by first | exact OwnF.alloc own2 _ | exact OwnF.drew (OwnF.alloc own2 _)) _ 1 1 [.int .i64 (seV0 a), .int .i64 (seT0 a)] (by rfl) (by first | exact (OwnC.lit wz wz.heap.size 1 81 2 [.int .i64 (seV0 a), .int .i64 (seT0 a)] (Nat.le_refl _) rfl (by simp [maxLen])).row | exact RowC.drew (OwnC.lit wz wz.heap.size 1 81 2 [.int .i64 (seV0 a), .int .i64 (seT0 a)] (Nat.le_refl _) rfl (by simp [maxLen])).row) (by simp [Value.oneCell']) (by omega) (by have := hb9.size; simp; omega) ?_; intro a6 c6 w6 o6 u6 g6 m6))
          have u9 := (Below.refl _ _).drew.trans u
          have hb8 := hb9.trans (u9.mono hb9.size)
          have hb7 := (hb8.alloc hb8.size _).trans (by first | exact u6 | exact (Below.refl _ _).drew.trans u6)
          clear u6 u u9 hb8 hb9 g6 m6 own' own2
          go_wp2
          go_roundw
          case rel => exact ⟨0 + 1, by omega, by go_num, hb7, a6, c6, rfl, o6⟩
          case measure => simp [intOf]
      · skip
        have own' : OwnF 2 eTagged wr w2'.heap.size c5 1 d5 [seV0 a, seT0 a] := own
        clear own
        rw [show ((1 : Nat) : Int) = 1 from rfl]
        have QF := Lib.hid own'.feet
        have ga := World.block_lt_of_cell? w _ y0
        dsimp only at ga
        have Na : w.heap.size ∉ foot c5 d5 := fun hq => by have := QF.out _ hq; have := S_w1'; have := S_w2'; omega
        have Ng : gs ∉ foot c5 d5 := fun hq => by have := QF.out _ hq; have := SB; omega
        have SR : w2'.heap.size ≤ wr.heap.size := hbel.size
        have p0 := keepC V_wr y2
        have p1 := keepC V_wr y3
        have p2 := keepC V_wr y6
        have p3 := keepC V_wr y7
        have p4 := keepC hbel z1
        go_wp2
        have e_a_0 := B_a.a11_0
        have e_a_1 := B_a.a11_1
        have e_a_2 := B_a.a11_2
        have e_a_3 := B_a.a11_3
        have e_a_4 := B_a.a11_4
        have e_a_5 := B_a.a11_5
        have e_a_6 := B_a.a11_6
        have e_a_7 := B_a.a11_7
        have e_a_8 := B_a.a11_8
        have e_a_9 := B_a.a11_9
        have e_a_10 := B_a.a11_10
        go_region_held3 (fun W => W.cell? ⟨w.heap.size, 0, none⟩ = some (.int .i64 a.P) ∧ W.cell? ⟨w.heap.size, 1, none⟩ = some (.int .i64 a.party) ∧ W.cell? ⟨w.heap.size, 2, none⟩ = some (.int .i64 a.input) ∧ W.cell? ⟨w.heap.size, 3, none⟩ = some (.int .i64 a.mask) ∧ W.cell? ⟨w.heap.size, 4, none⟩ = some (.int .i64 a.delta) ∧ W.cell? ⟨w.heap.size, 5, none⟩ = some (.slice (some ⟨gs, os, none⟩) 5 x_sc) ∧ W.cell? ⟨w.heap.size, 6, none⟩ = some (.slice x_ka x_kn x_kc) ∧ W.cell? ⟨w.heap.size, 7, none⟩ = some (.int .i64 a.step) ∧ W.cell? ⟨w.heap.size, 8, none⟩ = some (.slice x_ha x_hn x_hc) ∧ W.cell? ⟨w.heap.size, 9, none⟩ = some (.int .i64 a.status) ∧ W.cell? ⟨w.heap.size, 10, none⟩ = some (.int .i64 a.out) ∧ W.cell? ⟨gs, os + 2, none⟩ = some (.int .i64 (shV a 1)) ∧ W.cell? ⟨gs, os + 3, none⟩ = some (.int .i64 (shT a 1)) ∧ W.cell? ⟨gf, of + 1, none⟩ = some (.int .i64 (f1 a)))
          (first | exact ⟨e_a, p0, p1, p4⟩ | exact ⟨keepA _ e_a_0, keepA _ e_a_1, keepA _ e_a_2, keepA _ e_a_3, keepA _ e_a_4, keepA _ e_a_5, keepA _ e_a_6, keepA _ e_a_7, keepA _ e_a_8, keepA _ e_a_9, keepA _ e_a_10, keepA _ p0, keepA _ p1, keepA _ p4⟩ | exact ⟨keepC u (keepA _ e_a_0), keepC u (keepA _ e_a_1), keepC u (keepA _ e_a_2), keepC u (keepA _ e_a_3), keepC u (keepA _ e_a_4), keepC u (keepA _ e_a_5), keepC u (keepA _ e_a_6), keepC u (keepA _ e_a_7), keepC u (keepA _ e_a_8), keepC u (keepA _ e_a_9), keepC u (keepA _ e_a_10), keepC u (keepA _ p0), keepC u (keepA _ p1), keepC u (keepA _ p4)⟩ | exact ⟨keepC u e_a_0, keepC u e_a_1, keepC u e_a_2, keepC u e_a_3, keepC u e_a_4, keepC u e_a_5, keepC u e_a_6, keepC u e_a_7, keepC u e_a_8, keepC u e_a_9, keepC u e_a_10, keepC u p0, keepC u p1, keepC u p4⟩ | exact ⟨keepA _ (keepC u e_a_0), keepA _ (keepC u e_a_1), keepA _ (keepC u e_a_2), keepA _ (keepC u e_a_3), keepA _ (keepC u e_a_4), keepA _ (keepC u e_a_5), keepA _ (keepC u e_a_6), keepA _ (keepC u e_a_7), keepA _ (keepC u e_a_8), keepA _ (keepC u e_a_9), keepA _ (keepC u e_a_10), keepA _ (keepC u p0), keepA _ (keepC u p1), keepA _ (keepC u p4)⟩ | exact ⟨keepS e_a_0 _ _ (keepS e_a_0 _ _ (keepC u (keepA _ e_a_0))), keepS e_a_1 _ _ (keepS e_a_1 _ _ (keepC u (keepA _ e_a_1))), keepS e_a_2 _ _ (keepS e_a_2 _ _ (keepC u (keepA _ e_a_2))), keepS e_a_3 _ _ (keepS e_a_3 _ _ (keepC u (keepA _ e_a_3))), keepS e_a_4 _ _ (keepS e_a_4 _ _ (keepC u (keepA _ e_a_4))), keepS e_a_5 _ _ (keepS e_a_5 _ _ (keepC u (keepA _ e_a_5))), keepS e_a_6 _ _ (keepS e_a_6 _ _ (keepC u (keepA _ e_a_6))), keepS e_a_7 _ _ (keepS e_a_7 _ _ (keepC u (keepA _ e_a_7))), keepS e_a_8 _ _ (keepS e_a_8 _ _ (keepC u (keepA _ e_a_8))), keepS e_a_9 _ _ (keepS e_a_9 _ _ (keepC u (keepA _ e_a_9))), keepS e_a_10 _ _ (keepS e_a_10 _ _ (keepC u (keepA _ e_a_10))), keepS p0 _ _ (keepS p0 _ _ (keepC u (keepA _ p0))), keepS p1 _ _ (keepS p1 _ _ (keepC u (keepA _ p1))), keepS p4 _ _ (keepS p4 _ _ (keepC u (keepA _ p4)))⟩ | go_keep)
          (first | (go_at_call 143; refine (CS1.out _).mono ?_; rintro e wz ⟨rfl, u⟩; have BO : Blk wz wr.heap.size 81 #[.int .i64 0, .int .i64 0] := Blk.below (Blk.new wr 81 #[.int .i64 0, .int .i64 0]).drew u; have bo0 : wz.cell? ⟨wr.heap.size, 0, none⟩ = some (.int .i64 0) := BO.cell 0; have bf0 : wz.frozen? ⟨wr.heap.size, 0, none⟩ = false := BO.frozen 0; have bo1 : wz.cell? ⟨wr.heap.size, 1, none⟩ = some (.int .i64 0) := BO.cell 1; have bf1 : wz.frozen? ⟨wr.heap.size, 1, none⟩ = false := BO.frozen 1) | (go_at_call 143; refine (CS1.out _).mono ?_; rintro e wz ⟨rfl, u⟩))
        all_goals first
          | (have u1 : Below wr.heap.size wr wz := ((Below.refl _ wr).alloc (Nat.le_refl _) (.cells #[.int .i64 0, .int .i64 0] 81)).drew.trans (u.mono (by simp))
             have G : Only [wr.heap.size] wz ((wz.setCell ⟨wr.heap.size, 0, none⟩ (.int .i64 (shfV a (shV a 1) (f1 a)))).setCell ⟨wr.heap.size, 1, none⟩ (.int .i64 (shT a 1))) := (((Only.refl [wr.heap.size] wz).setCell ⟨wr.heap.size, 0, none⟩ (.int .i64 (shfV a (shV a 1) (f1 a))) (by simp)).setCell ⟨wr.heap.size, 1, none⟩ (.int .i64 (shT a 1)) (by simp))
             have hV : Below wr.heap.size wr ((wz.setCell ⟨wr.heap.size, 0, none⟩ (.int .i64 (shfV a (shV a 1) (f1 a)))).setCell ⟨wr.heap.size, 1, none⟩ (.int .i64 (shT a 1))) := u1.trans (G.below u1.size (fun q hq => by simp at hq; omega))
             have B_y : Blk ((wz.setCell ⟨wr.heap.size, 0, none⟩ (.int .i64 (shfV a (shV a 1) (f1 a)))).setCell ⟨wr.heap.size, 1, none⟩ (.int .i64 (shT a 1))) wr.heap.size 81 #[.int .i64 (shfV a (shV a 1) (f1 a)), .int .i64 (shT a 1)] := ((BO.set_ 0 (.int .i64 (shfV a (shV a 1) (f1 a)))).set_ 1 (.int .i64 (shT a 1)))
             have hob : wr.heap.size ≤ wr.heap.size := Nat.le_refl _
             clear G u1 u BO bo0 bf0 bo1 bf1
             generalize ((wz.setCell ⟨wr.heap.size, 0, none⟩ (.int .i64 (shfV a (shV a 1) (f1 a)))).setCell ⟨wr.heap.size, 1, none⟩ (.int .i64 (shT a 1))) = WW at *
             generalize hob' : wr.heap.size = ob at B_y ⊢
             rw [hob'] at hob
             replace hob : wr.heap.size ≤ ob := by omega
             clear hob')
          | (have u1 : Below wr.heap.size wr wz := (Below.refl _ wr).drew.trans u
             have hV : Below wr.heap.size wr (wz.alloc (.cells #[.int .i64 (shfV a (shV a 1) (f1 a)), .int .i64 (shT a 1)] 81)) := u1.alloc u1.size _
             have B_y : Blk (wz.alloc (.cells #[.int .i64 (shfV a (shV a 1) (f1 a)), .int .i64 (shT a 1)] 81)) wz.heap.size 81 #[.int .i64 (shfV a (shV a 1) (f1 a)), .int .i64 (shT a 1)] := Blk.new _ _ _
             have hob : wr.heap.size ≤ wz.heap.size := u1.size
             clear u1 u
             generalize wz.alloc (.cells #[.int .i64 (shfV a (shV a 1) (f1 a)), .int .i64 (shT a 1)] 81) = WW at *
             generalize wz.heap.size = ob at *)
        all_goals
          have hb9 := hbel.trans (hV.mono hbel.size)
          have No : ob ∉ foot c5 d5 := fun hq => by have := (QF.out _ hq).2; omega
          have r2 := keepC hV p2
          have r3 := keepC hV p3
          clear p0 p1 p2 p3 p4
          clear e_a_0 e_a_1 e_a_2 e_a_3 e_a_4 e_a_5 e_a_6 e_a_7 e_a_8 e_a_9 e_a_10
          replace B_a := B_a.below hV
          replace own' := own'.below hV
          have S_WW := hV.size
          have V_WW : Below w.heap.size w WW := V_wr.trans (hV.mono V_wr.size)
          clear V_wr
          clear hV
          have e_a_0 := B_a.a11_0
          have e_a_1 := B_a.a11_1
          have e_a_2 := B_a.a11_2
          have e_a_3 := B_a.a11_3
          have e_a_4 := B_a.a11_4
          have e_a_5 := B_a.a11_5
          have e_a_6 := B_a.a11_6
          have e_a_7 := B_a.a11_7
          have e_a_8 := B_a.a11_8
          have e_a_9 := B_a.a11_9
          have e_a_10 := B_a.a11_10
          have e_y_0 := B_y.a2_0
          have e_y_1 := B_y.a2_1
          go_wp2
          go_region_held3 (fun W => W.cell? ⟨w.heap.size, 0, none⟩ = some (.int .i64 a.P) ∧ W.cell? ⟨w.heap.size, 1, none⟩ = some (.int .i64 a.party) ∧ W.cell? ⟨w.heap.size, 2, none⟩ = some (.int .i64 a.input) ∧ W.cell? ⟨w.heap.size, 3, none⟩ = some (.int .i64 a.mask) ∧ W.cell? ⟨w.heap.size, 4, none⟩ = some (.int .i64 a.delta) ∧ W.cell? ⟨w.heap.size, 5, none⟩ = some (.slice (some ⟨gs, os, none⟩) 5 x_sc) ∧ W.cell? ⟨w.heap.size, 6, none⟩ = some (.slice x_ka x_kn x_kc) ∧ W.cell? ⟨w.heap.size, 7, none⟩ = some (.int .i64 a.step) ∧ W.cell? ⟨w.heap.size, 8, none⟩ = some (.slice x_ha x_hn x_hc) ∧ W.cell? ⟨w.heap.size, 9, none⟩ = some (.int .i64 a.status) ∧ W.cell? ⟨w.heap.size, 10, none⟩ = some (.int .i64 a.out) ∧ W.cell? ⟨ob, 0, none⟩ = some (.int .i64 (shfV a (shV a 1) (f1 a))) ∧ W.cell? ⟨ob, 1, none⟩ = some (.int .i64 (shT a 1)) ∧ W.cell? ⟨gs, os + 6, none⟩ = some (.int .i64 (shV a 3)) ∧ W.cell? ⟨gs, os + 7, none⟩ = some (.int .i64 (shT a 3)))
            (first | exact ⟨e_a, e_y, r2, r3⟩ | exact ⟨keepC u e_a_0, keepC u e_a_1, keepC u e_a_2, keepC u e_a_3, keepC u e_a_4, keepC u e_a_5, keepC u e_a_6, keepC u e_a_7, keepC u e_a_8, keepC u e_a_9, keepC u e_a_10, keepC u e_y_0, keepC u e_y_1, keepC u r2, keepC u r3⟩ | exact ⟨keepA _ (keepC u e_a_0), keepA _ (keepC u e_a_1), keepA _ (keepC u e_a_2), keepA _ (keepC u e_a_3), keepA _ (keepC u e_a_4), keepA _ (keepC u e_a_5), keepA _ (keepC u e_a_6), keepA _ (keepC u e_a_7), keepA _ (keepC u e_a_8), keepA _ (keepC u e_a_9), keepA _ (keepC u e_a_10), keepA _ (keepC u e_y_0), keepA _ (keepC u e_y_1), keepA _ (keepC u r2), keepA _ (keepC u r3)⟩ | exact ⟨keepGr g6 Na (keepA _ (keepC u e_a_0)), keepGr g6 Na (keepA _ (keepC u e_a_1)), keepGr g6 Na (keepA _ (keepC u e_a_2)), keepGr g6 Na (keepA _ (keepC u e_a_3)), keepGr g6 Na (keepA _ (keepC u e_a_4)), keepGr g6 Na (keepA _ (keepC u e_a_5)), keepGr g6 Na (keepA _ (keepC u e_a_6)), keepGr g6 Na (keepA _ (keepC u e_a_7)), keepGr g6 Na (keepA _ (keepC u e_a_8)), keepGr g6 Na (keepA _ (keepC u e_a_9)), keepGr g6 Na (keepA _ (keepC u e_a_10)), keepGr g6 No (keepA _ (keepC u e_y_0)), keepGr g6 No (keepA _ (keepC u e_y_1)), keepGr g6 Ng (keepA _ (keepC u r2)), keepGr g6 Ng (keepA _ (keepC u r3))⟩ | go_keep)
            (first | (go_at_call 142; refine (CA1.out _).mono ?_; rintro e wz ⟨rfl, u⟩; have own2 := own'.below ((Below.refl _ _).drew.trans u); have SZ : WW.heap.size ≤ wz.heap.size := u.size) | (refine step_appT (by rfl) _ _ (by rfl) w2'.heap.size c5 1 d5 _ (by rfl) (by first | exact OwnF.alloc own2 _ | exact OwnF.drew (OwnF.alloc own2 _)) _ 1 1 [.int .i64 (seV1 a), .int .i64 (seT1 a)] (by rfl) (by first | exact (OwnC.lit wz wz.heap.size 1 81 2 [.int .i64 (seV1 a), .int .i64 (seT1 a)] (Nat.le_refl _) rfl (by simp [maxLen])).row | exact RowC.drew (OwnC.lit wz wz.heap.size 1 81 2 [.int .i64 (seV1 a), .int .i64 (seT1 a)] (Nat.le_refl _) rfl (by simp [maxLen])).row) (by simp [Value.oneCell']) (by omega) (by have := hb9.size; simp; omega) ?_; intro a6 c6 w6 o6 u6 g6 m6))
          have u9 := (Below.refl _ _).drew.trans u
          have hb8 := hb9.trans (u9.mono hb9.size)
          have hb7 := (hb8.alloc hb8.size _).trans (by first | exact u6 | exact (Below.refl _ _).drew.trans u6)
          clear u6 u u9 hb8 hb9 g6 m6 own' own2
          go_wp2
          go_roundw
          case rel => exact ⟨1 + 1, by omega, by go_num, hb7, a6, c6, rfl, o6⟩
          case measure => simp [intOf]
    · obtain rfl : k = 2 := by omega
      have own' : OwnF 2 eTagged wr w2'.heap.size c5 2 d5 [seV0 a, seT0 a, seV1 a, seT1 a] := own
      go_wp2
      go_ret
      exact ⟨_, _, rfl, own'.flat, VB.trans (hbel.mono SB)⟩
end Go.Proofs.YtlmdckcohoddnaaDoor
