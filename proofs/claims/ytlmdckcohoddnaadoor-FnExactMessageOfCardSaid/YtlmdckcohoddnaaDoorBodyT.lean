/- Players: the terms of a step. -/
import Derived.Test.YtlmdckcohoddnaaDoorBodyK
namespace Go.Proofs.YtlmdckcohoddnaaDoor
open Go.RowKit
theorem Flat.lit (k n : Nat) (w : World) (l : List Int) (e : TypeId) (hl : l.length = n * k) (hn : n ≤ maxLen) : Flat k (w.alloc (.cells (l.map (Value.int .i64)).toArray e)) (some ⟨w.heap.size, 0, none⟩) n n l :=
  (OwnC.lit w w.heap.size n e k (l.map (Value.int .i64)) (Nat.le_refl _) (by simpa using hl) hn).row
def tm1 (a : Pl) : List Int := [1, 0, -1, 0, 0, f0 a, 0, 1, 0, -1, 0, f1 a]
def tm2 (a : Pl) : List Int := [0, 0, eI a, dI a, 1, dI a * eI a]
set_option maxHeartbeats 8000000 in
set_option maxRecDepth 100000 in
theorem terms_1 (a : Pl) (x : PlX) (w : World) (h : PlR w x a.shares a.keys a.heard) (hN : PlN a) (hs : 1 ≤ a.step) :
    Calls Tryd.prog 109 #[.agg #[.int .i64 a.P, .int .i64 a.party, .int .i64 a.input, .int .i64 a.mask, .int .i64 a.delta, .slice x.sa x.sn x.sc, .slice x.ka x.kn x.kc, .int .i64 a.step, .slice x.ha x.hn x.hc, .int .i64 a.status, .int .i64 a.out], .int .i64 1] w fun e w' => ∃ b c, e = .returned (.slice b 2 c) ∧ Flat 6 w' b 2 c (tm1 a) ∧ Below w.heap.size w w' := by

  go_enter Tryd.func109, Tryd.ntmps109
  go_wp2_with fail
  have V_w1'_1 : Below w.heap.size w (w.alloc (.cells #[.int .i64 a.P, .int .i64 a.party, .int .i64 a.input, .int .i64 a.mask, .int .i64 a.delta, .slice x.sa x.sn x.sc, .slice x.ka x.kn x.kc, .int .i64 a.step, .slice x.ha x.hn x.hc, .int .i64 a.status, .int .i64 a.out] 31)) := ((Below.refl w.heap.size w)).alloc (by have := ((Below.refl w.heap.size w)).size; first | exact this | (simp at *; omega)) _
  have B_a : Blk (w.alloc (.cells #[.int .i64 a.P, .int .i64 a.party, .int .i64 a.input, .int .i64 a.mask, .int .i64 a.delta, .slice x.sa x.sn x.sc, .slice x.ka x.kn x.kc, .int .i64 a.step, .slice x.ha x.hn x.hc, .int .i64 a.status, .int .i64 a.out] 31)) (w.heap.size) 31 #[.int .i64 a.P, .int .i64 a.party, .int .i64 a.input, .int .i64 a.mask, .int .i64 a.delta, .slice x.sa x.sn x.sc, .slice x.ka x.kn x.kc, .int .i64 a.step, .slice x.ha x.hn x.hc, .int .i64 a.status, .int .i64 a.out] := by exact Blk.new w 31 #[.int .i64 a.P, .int .i64 a.party, .int .i64 a.input, .int .i64 a.mask, .int .i64 a.delta, .slice x.sa x.sn x.sc, .slice x.ka x.kn x.kc, .int .i64 a.step, .slice x.ha x.hn x.hc, .int .i64 a.status, .int .i64 a.out]
  have S_w1' : w.heap.size + 1 ≤ (w.alloc (.cells #[.int .i64 a.P, .int .i64 a.party, .int .i64 a.input, .int .i64 a.mask, .int .i64 a.delta, .slice x.sa x.sn x.sc, .slice x.ka x.kn x.kc, .int .i64 a.step, .slice x.ha x.hn x.hc, .int .i64 a.status, .int .i64 a.out] 31)).heap.size := by first | (simp; done) | (simp; omega) | (simp [World.setCell]; done) | (simp [World.setCell]; omega)
  generalize (w.alloc (.cells #[.int .i64 a.P, .int .i64 a.party, .int .i64 a.input, .int .i64 a.mask, .int .i64 a.delta, .slice x.sa x.sn x.sc, .slice x.ka x.kn x.kc, .int .i64 a.step, .slice x.ha x.hn x.hc, .int .i64 a.status, .int .i64 a.out] 31)) = w1' at *
  have V_w1' : Below w.heap.size w w1' := V_w1'_1
  clear V_w1'_1
  refine (masked_any a x _ (h.below V_w1') hN hs).mono ?_
  rintro e w2' ⟨rfl, u_w2'⟩
  replace B_a := B_a.below u_w2'
  have S_w2' := u_w2'.size
  have V_w2' : Below w.heap.size w w2' := V_w1'.trans (u_w2'.mono V_w1'.size)
  clear V_w1'
  clear u_w2'
  go_wp2
  go_ret
  exact ⟨_, _, rfl, Flat.lit 6 2 _ (tm1 a) _ (by rfl) (by decide), V_w2'.alloc V_w2'.size _⟩
set_option maxHeartbeats 16000000 in
set_option maxRecDepth 100000 in
theorem terms_2 (a : Pl) (x : PlX) (w : World) (h : PlR w x a.shares a.keys a.heard) (hN : PlN a) (hs : 2 ≤ a.step) :
    Calls Tryd.prog 109 #[.agg #[.int .i64 a.P, .int .i64 a.party, .int .i64 a.input, .int .i64 a.mask, .int .i64 a.delta, .slice x.sa x.sn x.sc, .slice x.ka x.kn x.kc, .int .i64 a.step, .slice x.ha x.hn x.hc, .int .i64 a.status, .int .i64 a.out], .int .i64 2] w fun e w' => ∃ b c, e = .returned (.slice b 1 c) ∧ Flat 6 w' b 1 c (tm2 a) ∧ Below w.heap.size w w' := by
  have hp1 := hN.p1
  have hp2 := hN.p2
  have hlen := hN.hl
  have q0 := f0_rng hN (by omega)
  have q1 := f1_rng hN (by omega)
  have hd0 := (hN.hb 1 (by omega)).2 0 (by decide)
  have hd2 := (hN.hb 1 (by omega)).2 2 (by decide)
  have rd := dI_rng hN
  have re := eI_rng hN
  have v0 := cmb_rng a.P (shV a) 1 0 (-1) 0 0 (mor a (f0 a)) (by omega)
  have v1 := cmb_rng a.P (shV a) 0 1 0 (-1) 0 (mor a (f1 a)) (by omega)
  change 0 ≤ seV0 a ∧ seV0 a ≤ a.P - 1 at v0
  change 0 ≤ seV1 a ∧ seV1 a ≤ a.P - 1 at v1
  have m1 : 0 ≤ dI a * eI a := Int.mul_nonneg rd.1 re.1
  have m2 : dI a * eI a ≤ 1000 * 1000 := Int.mul_le_mul (by omega) (by omega) re.1 (by omega)
  have CM := fun (W : World) (h2 : PlR W x a.shares a.keys a.heard) => masked_any a x W h2 hN (by omega)
  have C0 := fun (W : World) (h2 : PlR W x a.shares a.keys a.heard) => (show Calls Tryd.prog 110 #[.agg #[.int .i64 a.P, .int .i64 a.party, .int .i64 a.input, .int .i64 a.mask, .int .i64 a.delta, .slice x.sa x.sn x.sc, .slice x.ka x.kn x.kc, .int .i64 a.step, .slice x.ha x.hn x.hc, .int .i64 a.status, .int .i64 a.out], .agg #[.int .i64 1, .int .i64 0, .int .i64 (-1), .int .i64 0, .int .i64 0, .int .i64 (f0 a)]] W fun e w' => e = .returned (.agg #[.int .i64 (seV0 a), .int .i64 (seT0 a)]) ∧ Below W.heap.size W w' from own_any a x 1 0 (-1) 0 0 (f0 a) W h2 hN (fun i _ => by unfold w5; split <;> (try split) <;> (try split) <;> (try split) <;> omega) (by omega))
  have C1 := fun (W : World) (h2 : PlR W x a.shares a.keys a.heard) => (show Calls Tryd.prog 110 #[.agg #[.int .i64 a.P, .int .i64 a.party, .int .i64 a.input, .int .i64 a.mask, .int .i64 a.delta, .slice x.sa x.sn x.sc, .slice x.ka x.kn x.kc, .int .i64 a.step, .slice x.ha x.hn x.hc, .int .i64 a.status, .int .i64 a.out], .agg #[.int .i64 0, .int .i64 1, .int .i64 0, .int .i64 (-1), .int .i64 0, .int .i64 (f1 a)]] W fun e w' => e = .returned (.agg #[.int .i64 (seV1 a), .int .i64 (seT1 a)]) ∧ Below W.heap.size W w' from own_any a x 0 1 0 (-1) 0 (f1 a) W h2 hN (fun i _ => by unfold w5; split <;> (try split) <;> (try split) <;> (try split) <;> omega) (by omega))
  obtain ⟨hhn, g, o, r, hx, e0, inn, hr⟩ := h.hd 1 (by omega)
  have hrl := (hN.hb 1 (by omega)).1
  rw [← hr] at hrl
  have hrl' : r.2.2.length = 4 := hrl
  obtain ⟨g2, o2, hr1, e1⟩ := inn.at 0 (by omega)
  obtain ⟨g3, o3, hr3, e3⟩ := inn.at 2 (by omega)
  rw [hr1] at hr3
  cases hr3
  have hv : r.2.2.getD 0 0 = hdI a 1 0 := by rw [hr]; rfl
  have hv3 : r.2.2.getD 2 0 = hdI a 1 2 := by rw [hr]; rfl
  rw [hv] at e1
  rw [hv3] at e3
  rw [hr1, hrl'] at e0
  have hnp : (1 : Int) < (x.hn : Int) := by omega
  clear hr hrl hrl' hr1 hv hv3 inn hhn hlen hN hs
  simp only [Nat.add_zero] at e1
  obtain ⟨x_sa, x_sn, x_sc, x_ka, x_kn, x_kc, x_ha, x_hn, x_hc⟩ := x
  dsimp only at *
  subst hx
  have HD : Hid ((seV0 a + hdI a 1 0) % a.P = dI a) := Lib.hid rfl
  have HE : Hid ((seV1 a + hdI a 1 2) % a.P = eI a) := Lib.hid rfl
  replace CM := Lib.hid CM
  replace C0 := Lib.hid C0
  replace C1 := Lib.hid C1
  generalize hdI a 1 0 = y0 at *
  generalize hdI a 1 2 = y2 at *
  generalize seV0 a = z0 at *
  generalize seV1 a = z1 at *
  generalize seT0 a = s0 at *
  generalize seT1 a = s1 at *
  have t1 : IntKind.i64.wrap (z0 + y0) = z0 + y0 := IntWalk.i64_in _ (by omega)
  have t2 : IntKind.i64.wrap (z1 + y2) = z1 + y2 := IntWalk.i64_in _ (by omega)
  have t3 : IntKind.i64.wrap (dI a * eI a) = dI a * eI a := IntWalk.i64_in _ (by omega)
  have fx0 : ∀ w' : World, (Instr.field 81 (.agg #[.int .i64 z0, .int .i64 s0]) 0).run Tryd.prog w' = .ok (.int .i64 z0) w' := fun _ => by kernel_rfl
  have fx1 : ∀ w' : World, (Instr.field 81 (.agg #[.int .i64 z1, .int .i64 s1]) 0).run Tryd.prog w' = .ok (.int .i64 z1) w' := fun _ => by kernel_rfl
  clear q0 q1 hd0 hd2

  go_enter Tryd.func109, Tryd.ntmps109
  go_wp2_with fail
  have V_w1'_1 : Below w.heap.size w (w.alloc (.cells #[.int .i64 a.P, .int .i64 a.party, .int .i64 a.input, .int .i64 a.mask, .int .i64 a.delta, .slice x_sa x_sn x_sc, .slice x_ka x_kn x_kc, .int .i64 a.step, .slice (some ⟨g, o, none⟩) x_hn x_hc, .int .i64 a.status, .int .i64 a.out] 31)) := ((Below.refl w.heap.size w)).alloc (by have := ((Below.refl w.heap.size w)).size; first | exact this | (simp at *; omega)) _
  have B_a : Blk (w.alloc (.cells #[.int .i64 a.P, .int .i64 a.party, .int .i64 a.input, .int .i64 a.mask, .int .i64 a.delta, .slice x_sa x_sn x_sc, .slice x_ka x_kn x_kc, .int .i64 a.step, .slice (some ⟨g, o, none⟩) x_hn x_hc, .int .i64 a.status, .int .i64 a.out] 31)) (w.heap.size) 31 #[.int .i64 a.P, .int .i64 a.party, .int .i64 a.input, .int .i64 a.mask, .int .i64 a.delta, .slice x_sa x_sn x_sc, .slice x_ka x_kn x_kc, .int .i64 a.step, .slice (some ⟨g, o, none⟩) x_hn x_hc, .int .i64 a.status, .int .i64 a.out] := by exact Blk.new w 31 #[.int .i64 a.P, .int .i64 a.party, .int .i64 a.input, .int .i64 a.mask, .int .i64 a.delta, .slice x_sa x_sn x_sc, .slice x_ka x_kn x_kc, .int .i64 a.step, .slice (some ⟨g, o, none⟩) x_hn x_hc, .int .i64 a.status, .int .i64 a.out]
  have S_w1' : w.heap.size + 1 ≤ (w.alloc (.cells #[.int .i64 a.P, .int .i64 a.party, .int .i64 a.input, .int .i64 a.mask, .int .i64 a.delta, .slice x_sa x_sn x_sc, .slice x_ka x_kn x_kc, .int .i64 a.step, .slice (some ⟨g, o, none⟩) x_hn x_hc, .int .i64 a.status, .int .i64 a.out] 31)).heap.size := by first | (simp; done) | (simp; omega) | (simp [World.setCell]; done) | (simp [World.setCell]; omega)
  generalize (w.alloc (.cells #[.int .i64 a.P, .int .i64 a.party, .int .i64 a.input, .int .i64 a.mask, .int .i64 a.delta, .slice x_sa x_sn x_sc, .slice x_ka x_kn x_kc, .int .i64 a.step, .slice (some ⟨g, o, none⟩) x_hn x_hc, .int .i64 a.status, .int .i64 a.out] 31)) = w1' at *
  have V_w1' : Below w.heap.size w w1' := V_w1'_1
  clear V_w1'_1
  refine (CM.out _ (h.below V_w1')).mono ?_
  rintro e w2' ⟨rfl, u_w2'⟩
  replace B_a := B_a.below u_w2'
  have S_w2' := u_w2'.size
  have V_w2' : Below w.heap.size w w2' := V_w1'.trans (u_w2'.mono V_w1'.size)
  clear V_w1'
  clear u_w2'
  go_wp2
  have V_w3'_1 : Below w.heap.size w (w2'.alloc (.cells #[.int .i64 1, .int .i64 0, .int .i64 (-1), .int .i64 0, .int .i64 0, .int .i64 (f0 a), .int .i64 0, .int .i64 1, .int .i64 0, .int .i64 (-1), .int .i64 0, .int .i64 (f1 a)] 123)) := (V_w2').alloc (by have := (V_w2').size; first | exact this | (simp at *; omega)) _
  replace B_a := B_a.alloc (.cells #[.int .i64 1, .int .i64 0, .int .i64 (-1), .int .i64 0, .int .i64 0, .int .i64 (f0 a), .int .i64 0, .int .i64 1, .int .i64 0, .int .i64 (-1), .int .i64 0, .int .i64 (f1 a)] 123)
  have B_z : Blk (w2'.alloc (.cells #[.int .i64 1, .int .i64 0, .int .i64 (-1), .int .i64 0, .int .i64 0, .int .i64 (f0 a), .int .i64 0, .int .i64 1, .int .i64 0, .int .i64 (-1), .int .i64 0, .int .i64 (f1 a)] 123)) (w2'.heap.size) 123 #[.int .i64 1, .int .i64 0, .int .i64 (-1), .int .i64 0, .int .i64 0, .int .i64 (f0 a), .int .i64 0, .int .i64 1, .int .i64 0, .int .i64 (-1), .int .i64 0, .int .i64 (f1 a)] := by exact Blk.new w2' 123 #[.int .i64 1, .int .i64 0, .int .i64 (-1), .int .i64 0, .int .i64 0, .int .i64 (f0 a), .int .i64 0, .int .i64 1, .int .i64 0, .int .i64 (-1), .int .i64 0, .int .i64 (f1 a)]
  have S_w3' : w2'.heap.size + 1 ≤ (w2'.alloc (.cells #[.int .i64 1, .int .i64 0, .int .i64 (-1), .int .i64 0, .int .i64 0, .int .i64 (f0 a), .int .i64 0, .int .i64 1, .int .i64 0, .int .i64 (-1), .int .i64 0, .int .i64 (f1 a)] 123)).heap.size := by first | (simp; done) | (simp; omega) | (simp [World.setCell]; done) | (simp [World.setCell]; omega)
  generalize (w2'.alloc (.cells #[.int .i64 1, .int .i64 0, .int .i64 (-1), .int .i64 0, .int .i64 0, .int .i64 (f0 a), .int .i64 0, .int .i64 1, .int .i64 0, .int .i64 (-1), .int .i64 0, .int .i64 (f1 a)] 123)) = w3' at *
  have V_w3' : Below w.heap.size w w3' := V_w3'_1
  clear V_w2'
  clear V_w3'_1
  generalize f0 a = F0 at *
  generalize f1 a = F1 at *

  have B_z' : Blk w3' ((w2'.heap.size)) 123 #[.int .i64 1, .int .i64 0, .int .i64 (-1), .int .i64 0, .int .i64 0, .int .i64 F0, .int .i64 0, .int .i64 1, .int .i64 0, .int .i64 (-1), .int .i64 0, .int .i64 F1] := B_z
  have e_a_0 : w3'.cell? ⟨w.heap.size, 0, none⟩ = some (.int .i64 a.P) := B_a.cell 0
  have e_a_1 : w3'.cell? ⟨w.heap.size, 1, none⟩ = some (.int .i64 a.party) := B_a.cell 1
  have e_a_2 : w3'.cell? ⟨w.heap.size, 2, none⟩ = some (.int .i64 a.input) := B_a.cell 2
  have e_a_3 : w3'.cell? ⟨w.heap.size, 3, none⟩ = some (.int .i64 a.mask) := B_a.cell 3
  have e_a_4 : w3'.cell? ⟨w.heap.size, 4, none⟩ = some (.int .i64 a.delta) := B_a.cell 4
  have e_a_5 : w3'.cell? ⟨w.heap.size, 5, none⟩ = some (.slice x_sa x_sn x_sc) := B_a.cell 5
  have e_a_6 : w3'.cell? ⟨w.heap.size, 6, none⟩ = some (.slice x_ka x_kn x_kc) := B_a.cell 6
  have e_a_7 : w3'.cell? ⟨w.heap.size, 7, none⟩ = some (.int .i64 a.step) := B_a.cell 7
  have e_a_8 : w3'.cell? ⟨w.heap.size, 8, none⟩ = some (.slice (some ⟨g, o, none⟩) x_hn x_hc) := B_a.cell 8
  have e_a_9 : w3'.cell? ⟨w.heap.size, 9, none⟩ = some (.int .i64 a.status) := B_a.cell 9
  have e_a_10 : w3'.cell? ⟨w.heap.size, 10, none⟩ = some (.int .i64 a.out) := B_a.cell 10
  have e_z_0 : w3'.cell? ⟨(w2'.heap.size), 0, none⟩ = some (.int .i64 1) := B_z'.cell 0
  have e_z_1 : w3'.cell? ⟨(w2'.heap.size), 1, none⟩ = some (.int .i64 0) := B_z'.cell 1
  have e_z_2 : w3'.cell? ⟨(w2'.heap.size), 2, none⟩ = some (.int .i64 (-1)) := B_z'.cell 2
  have e_z_3 : w3'.cell? ⟨(w2'.heap.size), 3, none⟩ = some (.int .i64 0) := B_z'.cell 3
  have e_z_4 : w3'.cell? ⟨(w2'.heap.size), 4, none⟩ = some (.int .i64 0) := B_z'.cell 4
  have e_z_5 : w3'.cell? ⟨(w2'.heap.size), 5, none⟩ = some (.int .i64 F0) := B_z'.cell 5
  have k0 := keepC V_w3' e0
  have k1 := keepC V_w3' e1
  have hR := h.below V_w3'.drew
  go_wp2
  go_region_held3 (fun W => W.cell? ⟨w.heap.size, 0, none⟩ = some (.int .i64 a.P) ∧ W.cell? ⟨w.heap.size, 1, none⟩ = some (.int .i64 a.party) ∧ W.cell? ⟨w.heap.size, 2, none⟩ = some (.int .i64 a.input) ∧ W.cell? ⟨w.heap.size, 3, none⟩ = some (.int .i64 a.mask) ∧ W.cell? ⟨w.heap.size, 4, none⟩ = some (.int .i64 a.delta) ∧ W.cell? ⟨w.heap.size, 5, none⟩ = some (.slice x_sa x_sn x_sc) ∧ W.cell? ⟨w.heap.size, 6, none⟩ = some (.slice x_ka x_kn x_kc) ∧ W.cell? ⟨w.heap.size, 7, none⟩ = some (.int .i64 a.step) ∧ W.cell? ⟨w.heap.size, 8, none⟩ = some (.slice (some ⟨g, o, none⟩) x_hn x_hc) ∧ W.cell? ⟨w.heap.size, 9, none⟩ = some (.int .i64 a.status) ∧ W.cell? ⟨w.heap.size, 10, none⟩ = some (.int .i64 a.out) ∧ W.cell? ⟨(w2'.heap.size), 0, none⟩ = some (.int .i64 1) ∧ W.cell? ⟨(w2'.heap.size), 1, none⟩ = some (.int .i64 0) ∧ W.cell? ⟨(w2'.heap.size), 2, none⟩ = some (.int .i64 (-1)) ∧ W.cell? ⟨(w2'.heap.size), 3, none⟩ = some (.int .i64 0) ∧ W.cell? ⟨(w2'.heap.size), 4, none⟩ = some (.int .i64 0) ∧ W.cell? ⟨(w2'.heap.size), 5, none⟩ = some (.int .i64 F0) ∧ W.cell? ⟨g, o + 1, none⟩ = some (.slice (some ⟨g2, o2, none⟩) 4 r.2.1) ∧ W.cell? ⟨g2, o2, none⟩ = some (.int .i64 y0))
    (first | exact ⟨keepC u (e_a_0), keepC u (e_a_1), keepC u (e_a_2), keepC u (e_a_3), keepC u (e_a_4), keepC u (e_a_5), keepC u (e_a_6), keepC u (e_a_7), keepC u (e_a_8), keepC u (e_a_9), keepC u (e_a_10), keepC u (e_z_0), keepC u (e_z_1), keepC u (e_z_2), keepC u (e_z_3), keepC u (e_z_4), keepC u (e_z_5), keepC u (k0), keepC u (k1)⟩ | go_keep)
    (first | (go_at_call 110; refine (C0.out _ hR).mono ?_; rintro e wz0 ⟨rfl, u⟩) | (go_at_call 69; refine (mod_same _ _ _ (by omega) (by omega)).mono ?_; rintro e w' ⟨rfl, hw⟩; replace hw := hw.symm; subst hw))
  rw [HD.out]
  have u9 : Below w3'.heap.size w3' wz0 := (Below.refl _ _).drew.trans u
  clear u hR k0 k1 e_a_0 e_a_1 e_a_2 e_a_3 e_a_4 e_a_5 e_a_6 e_a_7 e_a_8 e_a_9 e_a_10 e_z_0 e_z_1 e_z_2 e_z_3 e_z_4 e_z_5
  replace B_z' := B_z'.below u9
  replace B_a := B_a.below u9
  replace B_z := B_z.below u9
  have S_wz0 := u9.size
  have V_wz0 : Below w.heap.size w wz0 := V_w3'.trans (u9.mono V_w3'.size)
  clear V_w3'
  clear u9
  go_wp2
  have e_a_0 : wz0.cell? ⟨w.heap.size, 0, none⟩ = some (.int .i64 a.P) := B_a.cell 0
  have e_a_1 : wz0.cell? ⟨w.heap.size, 1, none⟩ = some (.int .i64 a.party) := B_a.cell 1
  have e_a_2 : wz0.cell? ⟨w.heap.size, 2, none⟩ = some (.int .i64 a.input) := B_a.cell 2
  have e_a_3 : wz0.cell? ⟨w.heap.size, 3, none⟩ = some (.int .i64 a.mask) := B_a.cell 3
  have e_a_4 : wz0.cell? ⟨w.heap.size, 4, none⟩ = some (.int .i64 a.delta) := B_a.cell 4
  have e_a_5 : wz0.cell? ⟨w.heap.size, 5, none⟩ = some (.slice x_sa x_sn x_sc) := B_a.cell 5
  have e_a_6 : wz0.cell? ⟨w.heap.size, 6, none⟩ = some (.slice x_ka x_kn x_kc) := B_a.cell 6
  have e_a_7 : wz0.cell? ⟨w.heap.size, 7, none⟩ = some (.int .i64 a.step) := B_a.cell 7
  have e_a_8 : wz0.cell? ⟨w.heap.size, 8, none⟩ = some (.slice (some ⟨g, o, none⟩) x_hn x_hc) := B_a.cell 8
  have e_a_9 : wz0.cell? ⟨w.heap.size, 9, none⟩ = some (.int .i64 a.status) := B_a.cell 9
  have e_a_10 : wz0.cell? ⟨w.heap.size, 10, none⟩ = some (.int .i64 a.out) := B_a.cell 10
  have e_z_6 : wz0.cell? ⟨(w2'.heap.size), 6, none⟩ = some (.int .i64 0) := B_z'.cell 6
  have e_z_7 : wz0.cell? ⟨(w2'.heap.size), 7, none⟩ = some (.int .i64 1) := B_z'.cell 7
  have e_z_8 : wz0.cell? ⟨(w2'.heap.size), 8, none⟩ = some (.int .i64 0) := B_z'.cell 8
  have e_z_9 : wz0.cell? ⟨(w2'.heap.size), 9, none⟩ = some (.int .i64 (-1)) := B_z'.cell 9
  have e_z_10 : wz0.cell? ⟨(w2'.heap.size), 10, none⟩ = some (.int .i64 0) := B_z'.cell 10
  have e_z_11 : wz0.cell? ⟨(w2'.heap.size), 11, none⟩ = some (.int .i64 F1) := B_z'.cell 11
  have k0 := keepC V_wz0 e0
  have k1 := keepC V_wz0 e3
  have hR := h.below V_wz0.drew
  go_region_held3 (fun W => W.cell? ⟨w.heap.size, 0, none⟩ = some (.int .i64 a.P) ∧ W.cell? ⟨w.heap.size, 1, none⟩ = some (.int .i64 a.party) ∧ W.cell? ⟨w.heap.size, 2, none⟩ = some (.int .i64 a.input) ∧ W.cell? ⟨w.heap.size, 3, none⟩ = some (.int .i64 a.mask) ∧ W.cell? ⟨w.heap.size, 4, none⟩ = some (.int .i64 a.delta) ∧ W.cell? ⟨w.heap.size, 5, none⟩ = some (.slice x_sa x_sn x_sc) ∧ W.cell? ⟨w.heap.size, 6, none⟩ = some (.slice x_ka x_kn x_kc) ∧ W.cell? ⟨w.heap.size, 7, none⟩ = some (.int .i64 a.step) ∧ W.cell? ⟨w.heap.size, 8, none⟩ = some (.slice (some ⟨g, o, none⟩) x_hn x_hc) ∧ W.cell? ⟨w.heap.size, 9, none⟩ = some (.int .i64 a.status) ∧ W.cell? ⟨w.heap.size, 10, none⟩ = some (.int .i64 a.out) ∧ W.cell? ⟨(w2'.heap.size), 6, none⟩ = some (.int .i64 0) ∧ W.cell? ⟨(w2'.heap.size), 7, none⟩ = some (.int .i64 1) ∧ W.cell? ⟨(w2'.heap.size), 8, none⟩ = some (.int .i64 0) ∧ W.cell? ⟨(w2'.heap.size), 9, none⟩ = some (.int .i64 (-1)) ∧ W.cell? ⟨(w2'.heap.size), 10, none⟩ = some (.int .i64 0) ∧ W.cell? ⟨(w2'.heap.size), 11, none⟩ = some (.int .i64 F1) ∧ W.cell? ⟨g, o + 1, none⟩ = some (.slice (some ⟨g2, o2, none⟩) 4 r.2.1) ∧ W.cell? ⟨g2, o2 + 2, none⟩ = some (.int .i64 y2))
    (first | exact ⟨keepC u (e_a_0), keepC u (e_a_1), keepC u (e_a_2), keepC u (e_a_3), keepC u (e_a_4), keepC u (e_a_5), keepC u (e_a_6), keepC u (e_a_7), keepC u (e_a_8), keepC u (e_a_9), keepC u (e_a_10), keepC u (e_z_6), keepC u (e_z_7), keepC u (e_z_8), keepC u (e_z_9), keepC u (e_z_10), keepC u (e_z_11), keepC u (k0), keepC u (k1)⟩ | go_keep)
    (first | (go_at_call 110; refine (C1.out _ hR).mono ?_; rintro e wz1 ⟨rfl, u⟩) | (go_at_call 69; refine (mod_same _ _ _ (by omega) (by omega)).mono ?_; rintro e w' ⟨rfl, hw⟩; replace hw := hw.symm; subst hw))
  rw [HE.out]
  have u9 : Below wz0.heap.size wz0 wz1 := (Below.refl _ _).drew.trans u
  clear u hR k0 k1 e_a_0 e_a_1 e_a_2 e_a_3 e_a_4 e_a_5 e_a_6 e_a_7 e_a_8 e_a_9 e_a_10 e_z_6 e_z_7 e_z_8 e_z_9 e_z_10 e_z_11
  replace B_z' := B_z'.below u9
  replace B_a := B_a.below u9
  replace B_z := B_z.below u9
  have S_wz1 := u9.size
  have V_wz1 : Below w.heap.size w wz1 := V_wz0.trans (u9.mono V_wz0.size)
  clear V_wz0
  clear u9
  go_wp2
  go_ret
  exact ⟨_, _, rfl, Flat.lit 6 1 _ (tm2 a) _ (by rfl) (by decide), V_wz1.alloc V_wz1.size _⟩
end Go.Proofs.YtlmdckcohoddnaaDoor
