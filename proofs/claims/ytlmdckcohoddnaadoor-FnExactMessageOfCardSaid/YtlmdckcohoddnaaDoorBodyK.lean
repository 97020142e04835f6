/- Players: keys of terms. -/
import Derived.Test.YtlmdckcohoddnaaDoorBodyJ
namespace Go.Proofs.YtlmdckcohoddnaaDoor
open Go.RowKit
theorem psum_shift (L W : Nat → Int) (m : Int) (k : Nat) : psum L W m k = psum L W 0 k + m := by
  induction k with
  | zero => simp [psum]
  | succ k ih => unfold psum; rw [ih]; omega
theorem keyT_eq (a : Pl) (w0 w1 w2 w3 w4 m : Int) : keyT a w0 w1 w2 w3 w4 m = (psum (kyI a) (w5 w0 w1 w2 w3 w4) 0 5 + (if a.party = 1 then -((m % a.P) * a.delta) else 0)) % a.P := by
  unfold keyT
  rw [← cmb_psum, psum_shift]
set_option maxHeartbeats 16000000 in
set_option maxRecDepth 100000 in
theorem keyOf_any (a : Pl) (x : PlX) (w0 w1 w2 w3 w4 m : Int) (w : World) (h : PlR w x a.shares a.keys a.heard) (hN : PlN a) (rW : ∀ i, i < 5 → -1000 ≤ w5 w0 w1 w2 w3 w4 i ∧ w5 w0 w1 w2 w3 w4 i ≤ 1000) (_rm : -1000000 ≤ m ∧ m ≤ 1000000) :
    Calls Tryd.prog 145 #[.agg #[.int .i64 a.P, .int .i64 a.party, .int .i64 a.input, .int .i64 a.mask, .int .i64 a.delta, .slice x.sa x.sn x.sc, .slice x.ka x.kn x.kc, .int .i64 a.step, .slice x.ha x.hn x.hc, .int .i64 a.status, .int .i64 a.out], .agg #[.int .i64 w0, .int .i64 w1, .int .i64 w2, .int .i64 w3, .int .i64 w4, .int .i64 m]] w fun e w' => e = .returned (.int .i64 (keyT a w0 w1 w2 w3 w4 m)) ∧ Below w.heap.size w w' := by
  have hp1 := hN.p1
  have hp2 := hN.p2
  have hde := hN.de
  obtain ⟨_, hK, _⟩ := h
  have hk5 : x.kn = 5 := by have := hK.len; have := hN.kl; omega
  obtain ⟨x_sa, x_sn, x_sc, x_ka, x_kn, x_kc, x_ha, x_hn, x_hc⟩ := x
  dsimp only at *
  have LK := Lib.hid hK
  have HK5 := Lib.hid hk5
  have bV := Lib.hid (fun (k : Nat) (hk : k ≤ 5) => psum_bd (L := kyI a) (W := w5 w0 w1 w2 w3 w4) (k := k) (m := 0) (fun i hi => by have := hN.ky i (by omega); omega) (fun i hi => rW i (by omega)) (by omega))
  have eV := Lib.hid (keyT_eq a w0 w1 w2 w3 w4 m)
  have mm := emod_rng m a.P (by omega)
  clear hN rW hK hk5

  go_enter Tryd.func145, Tryd.ntmps145
  go_wp2
  have V_w1'_1 : Below w.heap.size w (w.alloc (.cells #[.int .i64 a.P, .int .i64 a.party, .int .i64 a.input, .int .i64 a.mask, .int .i64 a.delta, .slice x_sa x_sn x_sc, .slice x_ka x_kn x_kc, .int .i64 a.step, .slice x_ha x_hn x_hc, .int .i64 a.status, .int .i64 a.out] 31)) := ((Below.refl w.heap.size w)).alloc (by have := ((Below.refl w.heap.size w)).size; first | exact this | (simp at *; omega)) _
  have B_a : Blk (w.alloc (.cells #[.int .i64 a.P, .int .i64 a.party, .int .i64 a.input, .int .i64 a.mask, .int .i64 a.delta, .slice x_sa x_sn x_sc, .slice x_ka x_kn x_kc, .int .i64 a.step, .slice x_ha x_hn x_hc, .int .i64 a.status, .int .i64 a.out] 31)) (w.heap.size) 31 #[.int .i64 a.P, .int .i64 a.party, .int .i64 a.input, .int .i64 a.mask, .int .i64 a.delta, .slice x_sa x_sn x_sc, .slice x_ka x_kn x_kc, .int .i64 a.step, .slice x_ha x_hn x_hc, .int .i64 a.status, .int .i64 a.out] := by exact Blk.new w 31 #[.int .i64 a.P, .int .i64 a.party, .int .i64 a.input, .int .i64 a.mask, .int .i64 a.delta, .slice x_sa x_sn x_sc, .slice x_ka x_kn x_kc, .int .i64 a.step, .slice x_ha x_hn x_hc, .int .i64 a.status, .int .i64 a.out]
  have V_w1'_2 : Below w.heap.size w ((w.alloc (.cells #[.int .i64 a.P, .int .i64 a.party, .int .i64 a.input, .int .i64 a.mask, .int .i64 a.delta, .slice x_sa x_sn x_sc, .slice x_ka x_kn x_kc, .int .i64 a.step, .slice x_ha x_hn x_hc, .int .i64 a.status, .int .i64 a.out] 31)).alloc (.cells #[.int .i64 w0, .int .i64 w1, .int .i64 w2, .int .i64 w3, .int .i64 w4, .int .i64 m] 123)) := (V_w1'_1).alloc (by have := (V_w1'_1).size; first | exact this | (simp at *; omega)) _
  replace B_a := B_a.alloc (.cells #[.int .i64 w0, .int .i64 w1, .int .i64 w2, .int .i64 w3, .int .i64 w4, .int .i64 m] 123)
  have B_t : Blk ((w.alloc (.cells #[.int .i64 a.P, .int .i64 a.party, .int .i64 a.input, .int .i64 a.mask, .int .i64 a.delta, .slice x_sa x_sn x_sc, .slice x_ka x_kn x_kc, .int .i64 a.step, .slice x_ha x_hn x_hc, .int .i64 a.status, .int .i64 a.out] 31)).alloc (.cells #[.int .i64 w0, .int .i64 w1, .int .i64 w2, .int .i64 w3, .int .i64 w4, .int .i64 m] 123)) (w.heap.size + 1) 123 #[.int .i64 w0, .int .i64 w1, .int .i64 w2, .int .i64 w3, .int .i64 w4, .int .i64 m] := by simpa [World.setCell] using (Blk.new (w.alloc (.cells #[.int .i64 a.P, .int .i64 a.party, .int .i64 a.input, .int .i64 a.mask, .int .i64 a.delta, .slice x_sa x_sn x_sc, .slice x_ka x_kn x_kc, .int .i64 a.step, .slice x_ha x_hn x_hc, .int .i64 a.status, .int .i64 a.out] 31)) 123 #[.int .i64 w0, .int .i64 w1, .int .i64 w2, .int .i64 w3, .int .i64 w4, .int .i64 m])
  have S_w1' : w.heap.size + 2 ≤ ((w.alloc (.cells #[.int .i64 a.P, .int .i64 a.party, .int .i64 a.input, .int .i64 a.mask, .int .i64 a.delta, .slice x_sa x_sn x_sc, .slice x_ka x_kn x_kc, .int .i64 a.step, .slice x_ha x_hn x_hc, .int .i64 a.status, .int .i64 a.out] 31)).alloc (.cells #[.int .i64 w0, .int .i64 w1, .int .i64 w2, .int .i64 w3, .int .i64 w4, .int .i64 m] 123)).heap.size := by first | (simp; done) | (simp; omega) | (simp [World.setCell]; done) | (simp [World.setCell]; omega)
  generalize ((w.alloc (.cells #[.int .i64 a.P, .int .i64 a.party, .int .i64 a.input, .int .i64 a.mask, .int .i64 a.delta, .slice x_sa x_sn x_sc, .slice x_ka x_kn x_kc, .int .i64 a.step, .slice x_ha x_hn x_hc, .int .i64 a.status, .int .i64 a.out] 31)).alloc (.cells #[.int .i64 w0, .int .i64 w1, .int .i64 w2, .int .i64 w3, .int .i64 w4, .int .i64 m] 123)) = w1' at *
  clear V_w1'_1
  have V_w1' : Below w.heap.size w w1' := V_w1'_2
  clear V_w1'_2
  go_loopw [10, 5] (fun v u wr => ∃ k : Nat, k ≤ 5 ∧ v = .int .i64 k ∧ u = .int .i64 (psum (kyI a) (w5 w0 w1 w2 w3 w4) 0 k) ∧ w1' = wr) (fun v _ _ => 5 - (intOf v).toNat)
  case atStart => exact ⟨0, by omega, rfl, rfl, rfl⟩
  case round =>
    obtain ⟨k, hk, rfl, rfl, rfl⟩ := hrel
    by_cases hlt : k < 5
    · have b1 := bV.out k (by omega)
      have b2 := bV.out (k + 1) (by omega)

      have e_a_0 : w1'.cell? ⟨w.heap.size, 0, none⟩ = some (.int .i64 a.P) := B_a.cell 0
      have e_a_1 : w1'.cell? ⟨w.heap.size, 1, none⟩ = some (.int .i64 a.party) := B_a.cell 1
      have e_a_2 : w1'.cell? ⟨w.heap.size, 2, none⟩ = some (.int .i64 a.input) := B_a.cell 2
      have e_a_3 : w1'.cell? ⟨w.heap.size, 3, none⟩ = some (.int .i64 a.mask) := B_a.cell 3
      have e_a_4 : w1'.cell? ⟨w.heap.size, 4, none⟩ = some (.int .i64 a.delta) := B_a.cell 4
      have e_a_5 : w1'.cell? ⟨w.heap.size, 5, none⟩ = some (.slice x_sa x_sn x_sc) := B_a.cell 5
      have e_a_6 : w1'.cell? ⟨w.heap.size, 6, none⟩ = some (.slice x_ka x_kn x_kc) := B_a.cell 6
      have e_a_7 : w1'.cell? ⟨w.heap.size, 7, none⟩ = some (.int .i64 a.step) := B_a.cell 7
      have e_a_8 : w1'.cell? ⟨w.heap.size, 8, none⟩ = some (.slice x_ha x_hn x_hc) := B_a.cell 8
      have e_a_9 : w1'.cell? ⟨w.heap.size, 9, none⟩ = some (.int .i64 a.status) := B_a.cell 9
      have e_a_10 : w1'.cell? ⟨w.heap.size, 10, none⟩ = some (.int .i64 a.out) := B_a.cell 10
      obtain ⟨g, o, hka, c0⟩ := (LK.out.below V_w1').at k (by have := HK5.out; omega)
      have hc : a.keys.getD k 0 = kyI a k := rfl
      rw [hc] at c0
      clear hc
      subst hka
      have hki : (k : Int) < (x_kn : Int) := by have := HK5.out; omega
      have hcase : k = 0 ∨ k = 1 ∨ k = 2 ∨ k = 3 ∨ k = 4 := by omega
      rcases hcase with rfl | rfl | rfl | rfl | rfl
      · have hv : psum (kyI a) (w5 w0 w1 w2 w3 w4) 0 (0 + 1) = psum (kyI a) (w5 w0 w1 w2 w3 w4) 0 0 + w0 * kyI a 0 := rfl
        rw [hv] at b2
        replace hv := Lib.hid hv
        generalize psum (kyI a) (w5 w0 w1 w2 w3 w4) 0 0 = pv at *
        generalize kyI a 0 = xv at *
        have t1 : IntKind.i64.wrap (w0 * xv) = w0 * xv := IntWalk.i64_in _ (by omega)
        have t2 : IntKind.i64.wrap (pv + w0 * xv) = pv + w0 * xv := IntWalk.i64_in _ (by omega)
        clear b1 b2
        rw [show ((0 : Nat) : Int) = 0 from rfl] at *
        simp only [Nat.add_zero] at c0
        have ix : ∀ w' : World, (Instr.index 121 (.agg #[.int .i64 w0, .int .i64 w1, .int .i64 w2, .int .i64 w3, .int .i64 w4]) (.int .i64 0)).run Tryd.prog w' = .ok (.int .i64 w0) w' := fun _ => by kernel_rfl
        go_wp2
        go_roundw
        case rel => exact ⟨0 + 1, by omega, by go_num, by rw [hv.out], by first | rfl | trivial⟩
        case measure => simp [intOf]
      · have hv : psum (kyI a) (w5 w0 w1 w2 w3 w4) 0 (1 + 1) = psum (kyI a) (w5 w0 w1 w2 w3 w4) 0 1 + w1 * kyI a 1 := rfl
        rw [hv] at b2
        replace hv := Lib.hid hv
        generalize psum (kyI a) (w5 w0 w1 w2 w3 w4) 0 1 = pv at *
        generalize kyI a 1 = xv at *
        have t1 : IntKind.i64.wrap (w1 * xv) = w1 * xv := IntWalk.i64_in _ (by omega)
        have t2 : IntKind.i64.wrap (pv + w1 * xv) = pv + w1 * xv := IntWalk.i64_in _ (by omega)
        clear b1 b2
        rw [show ((1 : Nat) : Int) = 1 from rfl] at *
        skip
        have ix : ∀ w' : World, (Instr.index 121 (.agg #[.int .i64 w0, .int .i64 w1, .int .i64 w2, .int .i64 w3, .int .i64 w4]) (.int .i64 1)).run Tryd.prog w' = .ok (.int .i64 w1) w' := fun _ => by kernel_rfl
        go_wp2
        go_roundw
        case rel => exact ⟨1 + 1, by omega, by go_num, by rw [hv.out], by first | rfl | trivial⟩
        case measure => simp [intOf]
      · have hv : psum (kyI a) (w5 w0 w1 w2 w3 w4) 0 (2 + 1) = psum (kyI a) (w5 w0 w1 w2 w3 w4) 0 2 + w2 * kyI a 2 := rfl
        rw [hv] at b2
        replace hv := Lib.hid hv
        generalize psum (kyI a) (w5 w0 w1 w2 w3 w4) 0 2 = pv at *
        generalize kyI a 2 = xv at *
        have t1 : IntKind.i64.wrap (w2 * xv) = w2 * xv := IntWalk.i64_in _ (by omega)
        have t2 : IntKind.i64.wrap (pv + w2 * xv) = pv + w2 * xv := IntWalk.i64_in _ (by omega)
        clear b1 b2
        rw [show ((2 : Nat) : Int) = 2 from rfl] at *
        skip
        have ix : ∀ w' : World, (Instr.index 121 (.agg #[.int .i64 w0, .int .i64 w1, .int .i64 w2, .int .i64 w3, .int .i64 w4]) (.int .i64 2)).run Tryd.prog w' = .ok (.int .i64 w2) w' := fun _ => by kernel_rfl
        go_wp2
        go_roundw
        case rel => exact ⟨2 + 1, by omega, by go_num, by rw [hv.out], by first | rfl | trivial⟩
        case measure => simp [intOf]
      · have hv : psum (kyI a) (w5 w0 w1 w2 w3 w4) 0 (3 + 1) = psum (kyI a) (w5 w0 w1 w2 w3 w4) 0 3 + w3 * kyI a 3 := rfl
        rw [hv] at b2
        replace hv := Lib.hid hv
        generalize psum (kyI a) (w5 w0 w1 w2 w3 w4) 0 3 = pv at *
        generalize kyI a 3 = xv at *
        have t1 : IntKind.i64.wrap (w3 * xv) = w3 * xv := IntWalk.i64_in _ (by omega)
        have t2 : IntKind.i64.wrap (pv + w3 * xv) = pv + w3 * xv := IntWalk.i64_in _ (by omega)
        clear b1 b2
        rw [show ((3 : Nat) : Int) = 3 from rfl] at *
        skip
        have ix : ∀ w' : World, (Instr.index 121 (.agg #[.int .i64 w0, .int .i64 w1, .int .i64 w2, .int .i64 w3, .int .i64 w4]) (.int .i64 3)).run Tryd.prog w' = .ok (.int .i64 w3) w' := fun _ => by kernel_rfl
        go_wp2
        go_roundw
        case rel => exact ⟨3 + 1, by omega, by go_num, by rw [hv.out], by first | rfl | trivial⟩
        case measure => simp [intOf]
      · have hv : psum (kyI a) (w5 w0 w1 w2 w3 w4) 0 (4 + 1) = psum (kyI a) (w5 w0 w1 w2 w3 w4) 0 4 + w4 * kyI a 4 := rfl
        rw [hv] at b2
        replace hv := Lib.hid hv
        generalize psum (kyI a) (w5 w0 w1 w2 w3 w4) 0 4 = pv at *
        generalize kyI a 4 = xv at *
        have t1 : IntKind.i64.wrap (w4 * xv) = w4 * xv := IntWalk.i64_in _ (by omega)
        have t2 : IntKind.i64.wrap (pv + w4 * xv) = pv + w4 * xv := IntWalk.i64_in _ (by omega)
        clear b1 b2
        rw [show ((4 : Nat) : Int) = 4 from rfl] at *
        skip
        have ix : ∀ w' : World, (Instr.index 121 (.agg #[.int .i64 w0, .int .i64 w1, .int .i64 w2, .int .i64 w3, .int .i64 w4]) (.int .i64 4)).run Tryd.prog w' = .ok (.int .i64 w4) w' := fun _ => by kernel_rfl
        go_wp2
        go_roundw
        case rel => exact ⟨4 + 1, by omega, by go_num, by rw [hv.out], by first | rfl | trivial⟩
        case measure => simp [intOf]

    · obtain rfl : k = 5 := by omega
      have b1 := bV.out 5 (by omega)
      have e_a_0 : w1'.cell? ⟨w.heap.size, 0, none⟩ = some (.int .i64 a.P) := B_a.cell 0
      have e_a_1 : w1'.cell? ⟨w.heap.size, 1, none⟩ = some (.int .i64 a.party) := B_a.cell 1
      have e_a_2 : w1'.cell? ⟨w.heap.size, 2, none⟩ = some (.int .i64 a.input) := B_a.cell 2
      have e_a_3 : w1'.cell? ⟨w.heap.size, 3, none⟩ = some (.int .i64 a.mask) := B_a.cell 3
      have e_a_4 : w1'.cell? ⟨w.heap.size, 4, none⟩ = some (.int .i64 a.delta) := B_a.cell 4
      have e_a_5 : w1'.cell? ⟨w.heap.size, 5, none⟩ = some (.slice x_sa x_sn x_sc) := B_a.cell 5
      have e_a_6 : w1'.cell? ⟨w.heap.size, 6, none⟩ = some (.slice x_ka x_kn x_kc) := B_a.cell 6
      have e_a_7 : w1'.cell? ⟨w.heap.size, 7, none⟩ = some (.int .i64 a.step) := B_a.cell 7
      have e_a_8 : w1'.cell? ⟨w.heap.size, 8, none⟩ = some (.slice x_ha x_hn x_hc) := B_a.cell 8
      have e_a_9 : w1'.cell? ⟨w.heap.size, 9, none⟩ = some (.int .i64 a.status) := B_a.cell 9
      have e_a_10 : w1'.cell? ⟨w.heap.size, 10, none⟩ = some (.int .i64 a.out) := B_a.cell 10
      have e_t_0 : w1'.cell? ⟨w.heap.size + 1, 0, none⟩ = some (.int .i64 w0) := B_t.cell 0
      have e_t_1 : w1'.cell? ⟨w.heap.size + 1, 1, none⟩ = some (.int .i64 w1) := B_t.cell 1
      have e_t_2 : w1'.cell? ⟨w.heap.size + 1, 2, none⟩ = some (.int .i64 w2) := B_t.cell 2
      have e_t_3 : w1'.cell? ⟨w.heap.size + 1, 3, none⟩ = some (.int .i64 w3) := B_t.cell 3
      have e_t_4 : w1'.cell? ⟨w.heap.size + 1, 4, none⟩ = some (.int .i64 w4) := B_t.cell 4
      have e_t_5 : w1'.cell? ⟨w.heap.size + 1, 5, none⟩ = some (.int .i64 m) := B_t.cell 5
      generalize psum (kyI a) (w5 w0 w1 w2 w3 w4) 0 5 = pv at *
      by_cases k0 : a.party = 1
      · rw [if_pos k0] at eV
        have k1 : ((a.party == 1) : Bool) = true := by simpa using k0
        have m1 : 0 ≤ m % a.P * a.delta := Int.mul_nonneg mm.1 hde.1
        have m2 : m % a.P * a.delta ≤ 1000 * 1000 := Int.mul_le_mul (by omega) (by omega) hde.1 (by omega)
        have t1 : IntKind.i64.wrap (m % a.P * a.delta) = m % a.P * a.delta := IntWalk.i64_in _ (by omega)
        have t2 : IntKind.i64.wrap (pv - m % a.P * a.delta) = pv - m % a.P * a.delta := IntWalk.i64_in _ (by omega)
        clear k0
        go_wp2
        go_quiet ((go_at_call 69; exact Calls.quiet_of_same (mod_same _ _ _ (by omega) (by omega))))
        go_wp2_with fail
        refine (mod_same _ _ _ (by omega) (by omega)).mono ?_; rintro e w' ⟨rfl, hw⟩
        go_wp2
        go_ret
        exact ⟨ret_int (by rw [eV.out, Int.sub_eq_add_neg]), by first | exact below_drewN V_w1' _ | (rw [hw]; exact below_drewN V_w1' _)⟩
      · rw [if_neg k0] at eV
        have k1 : ((a.party == 1) : Bool) = false := by simpa using k0
        clear k0
        go_wp2_with fail
        refine (mod_same _ _ _ (by omega) (by omega)).mono ?_; rintro e w' ⟨rfl, hw⟩
        go_wp2
        go_ret
        exact ⟨ret_int (by rw [eV.out, Int.add_zero]), by first | exact V_w1' | (rw [hw]; exact V_w1')⟩
end Go.Proofs.YtlmdckcohoddnaaDoor
