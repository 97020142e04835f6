/- Players: the body that a running player sends. -/
import Derived.Test.YtlmdckcohoddnaaDoorBodyT
namespace Go.Proofs.YtlmdckcohoddnaaDoor
open Go.RowKit
theorem terms_1s (st : Int) (hst : st = 1) (a : Pl) (x : PlX) (w : World) (h : PlR w x a.shares a.keys a.heard) (hN : PlN a) (hs : 1 ≤ a.step) :
    Calls Tryd.prog 109 #[.agg #[.int .i64 a.P, .int .i64 a.party, .int .i64 a.input, .int .i64 a.mask, .int .i64 a.delta, .slice x.sa x.sn x.sc, .slice x.ka x.kn x.kc, .int .i64 a.step, .slice x.ha x.hn x.hc, .int .i64 a.status, .int .i64 a.out], .int .i64 st] w fun e w' => ∃ b c, e = .returned (.slice b 2 c) ∧ Flat 6 w' b 2 c (tm1 a) ∧ Below w.heap.size w w' := by subst hst; exact terms_1 a x w h hN hs
theorem terms_2s (st : Int) (hst : st = 2) (a : Pl) (x : PlX) (w : World) (h : PlR w x a.shares a.keys a.heard) (hN : PlN a) (hs : 2 ≤ a.step) :
    Calls Tryd.prog 109 #[.agg #[.int .i64 a.P, .int .i64 a.party, .int .i64 a.input, .int .i64 a.mask, .int .i64 a.delta, .slice x.sa x.sn x.sc, .slice x.ka x.kn x.kc, .int .i64 a.step, .slice x.ha x.hn x.hc, .int .i64 a.status, .int .i64 a.out], .int .i64 st] w fun e w' => ∃ b c, e = .returned (.slice b 1 c) ∧ Flat 6 w' b 1 c (tm2 a) ∧ Below w.heap.size w w' := by subst hst; exact terms_2 a x w h hN hs
set_option maxHeartbeats 8000000 in
set_option maxRecDepth 100000 in
theorem body_0 (a : Pl) (x : PlX) (w : World) (hN : PlN a) (hs : a.step = 0) :
    Calls Tryd.prog 73 #[.agg #[.int .i64 a.P, .int .i64 a.party, .int .i64 a.input, .int .i64 a.mask, .int .i64 a.delta, .slice x.sa x.sn x.sc, .slice x.ka x.kn x.kc, .int .i64 a.step, .slice x.ha x.hn x.hc, .int .i64 a.status, .int .i64 a.out]] w fun e w' => ∃ b c, e = .returned (.slice b 1 c) ∧ Own w' w.heap.size b 1 c [mkI a] ∧ Below w.heap.size w w' := by
  have hp1 := hN.p1
  have hp2 := hN.p2
  have hip := hN.ip
  have hmk := hN.mks
  have k0 : ((a.step == 0) : Bool) = true := by simpa using hs
  have HM : Hid ((a.input - a.mask) % a.P = mkI a) := Lib.hid rfl
  have t1 : IntKind.i64.wrap (a.input - a.mask) = a.input - a.mask := IntWalk.i64_in _ (by omega)
  clear hs hN

  go_enter Tryd.func73, Tryd.ntmps73
  go_wp2_with fail
  have V_w1'_1 : Below w.heap.size w (w.alloc (.cells #[.int .i64 a.P, .int .i64 a.party, .int .i64 a.input, .int .i64 a.mask, .int .i64 a.delta, .slice x.sa x.sn x.sc, .slice x.ka x.kn x.kc, .int .i64 a.step, .slice x.ha x.hn x.hc, .int .i64 a.status, .int .i64 a.out] 31)) := ((Below.refl w.heap.size w)).alloc (by have := ((Below.refl w.heap.size w)).size; first | exact this | (simp at *; omega)) _
  have B_a : Blk (w.alloc (.cells #[.int .i64 a.P, .int .i64 a.party, .int .i64 a.input, .int .i64 a.mask, .int .i64 a.delta, .slice x.sa x.sn x.sc, .slice x.ka x.kn x.kc, .int .i64 a.step, .slice x.ha x.hn x.hc, .int .i64 a.status, .int .i64 a.out] 31)) (w.heap.size) 31 #[.int .i64 a.P, .int .i64 a.party, .int .i64 a.input, .int .i64 a.mask, .int .i64 a.delta, .slice x.sa x.sn x.sc, .slice x.ka x.kn x.kc, .int .i64 a.step, .slice x.ha x.hn x.hc, .int .i64 a.status, .int .i64 a.out] := by exact Blk.new w 31 #[.int .i64 a.P, .int .i64 a.party, .int .i64 a.input, .int .i64 a.mask, .int .i64 a.delta, .slice x.sa x.sn x.sc, .slice x.ka x.kn x.kc, .int .i64 a.step, .slice x.ha x.hn x.hc, .int .i64 a.status, .int .i64 a.out]
  have S_w1' : w.heap.size + 1 ≤ (w.alloc (.cells #[.int .i64 a.P, .int .i64 a.party, .int .i64 a.input, .int .i64 a.mask, .int .i64 a.delta, .slice x.sa x.sn x.sc, .slice x.ka x.kn x.kc, .int .i64 a.step, .slice x.ha x.hn x.hc, .int .i64 a.status, .int .i64 a.out] 31)).heap.size := by first | (simp; done) | (simp; omega) | (simp [World.setCell]; done) | (simp [World.setCell]; omega)
  generalize (w.alloc (.cells #[.int .i64 a.P, .int .i64 a.party, .int .i64 a.input, .int .i64 a.mask, .int .i64 a.delta, .slice x.sa x.sn x.sc, .slice x.ka x.kn x.kc, .int .i64 a.step, .slice x.ha x.hn x.hc, .int .i64 a.status, .int .i64 a.out] 31)) = w1' at *
  have V_w1' : Below w.heap.size w w1' := V_w1'_1
  clear V_w1'_1
  refine (mod_same _ _ _ (by omega) (by omega)).mono ?_; rintro e w' ⟨rfl, hw⟩; replace hw := hw.symm; subst hw
  rw [HM.out]
  go_wp2
  go_ret
  exact ⟨_, _, rfl, (Own.lit w1' _ [mkI a] (Nat.le_refl _) (by simp [maxLen])).lower V_w1'.size, V_w1'.alloc V_w1'.size _⟩
set_option maxHeartbeats 16000000 in
set_option maxRecDepth 100000 in
theorem body_1 (a : Pl) (x : PlX) (w : World) (h : PlR w x a.shares a.keys a.heard) (hN : PlN a) (hs : a.step = 1) :
    Calls Tryd.prog 73 #[.agg #[.int .i64 a.P, .int .i64 a.party, .int .i64 a.input, .int .i64 a.mask, .int .i64 a.delta, .slice x.sa x.sn x.sc, .slice x.ka x.kn x.kc, .int .i64 a.step, .slice x.ha x.hn x.hc, .int .i64 a.status, .int .i64 a.out]] w fun e w' => ∃ b c, e = .returned (.slice b 4 c) ∧ Own w' w.heap.size b 4 c [seV0 a, seT0 a, seV1 a, seT1 a] ∧ Below w.heap.size w w' := by
  have hp1 := hN.p1
  have hp2 := hN.p2
  have q0 := f0_rng hN (by omega)
  have q1 := f1_rng hN (by omega)
  have rd := dI_rng hN
  have re := eI_rng hN
  have m1 : 0 ≤ dI a * eI a := Int.mul_nonneg rd.1 re.1
  have m2 : dI a * eI a ≤ 1000 * 1000 := Int.mul_le_mul (by omega) (by omega) re.1 (by omega)
  have k0 : ((a.step == 0) : Bool) = false := by simp; omega
  have CT := Lib.hid (fun (W : World) (h2 : PlR W x a.shares a.keys a.heard) => terms_1s a.step hs a x W h2 hN (by omega))
  have C0 := Lib.hid (fun (W : World) (h2 : PlR W x a.shares a.keys a.heard) => (show Calls Tryd.prog 110 #[.agg #[.int .i64 a.P, .int .i64 a.party, .int .i64 a.input, .int .i64 a.mask, .int .i64 a.delta, .slice x.sa x.sn x.sc, .slice x.ka x.kn x.kc, .int .i64 a.step, .slice x.ha x.hn x.hc, .int .i64 a.status, .int .i64 a.out], .agg #[.int .i64 (1), .int .i64 (0), .int .i64 (-1), .int .i64 (0), .int .i64 (0), .int .i64 (f0 a)]] W fun e w' => e = .returned (.agg #[.int .i64 (seV0 a), .int .i64 (seT0 a)]) ∧ Below W.heap.size W w' from own_any a x (1) (0) (-1) (0) (0) (f0 a) W h2 hN (fun i _ => by unfold w5; split <;> (try split) <;> (try split) <;> (try split) <;> omega) (by omega)))
  have C1 := Lib.hid (fun (W : World) (h2 : PlR W x a.shares a.keys a.heard) => (show Calls Tryd.prog 110 #[.agg #[.int .i64 a.P, .int .i64 a.party, .int .i64 a.input, .int .i64 a.mask, .int .i64 a.delta, .slice x.sa x.sn x.sc, .slice x.ka x.kn x.kc, .int .i64 a.step, .slice x.ha x.hn x.hc, .int .i64 a.status, .int .i64 a.out], .agg #[.int .i64 (0), .int .i64 (1), .int .i64 (0), .int .i64 (-1), .int .i64 (0), .int .i64 (f1 a)]] W fun e w' => e = .returned (.agg #[.int .i64 (seV1 a), .int .i64 (seT1 a)]) ∧ Below W.heap.size W w' from own_any a x (0) (1) (0) (-1) (0) (f1 a) W h2 hN (fun i _ => by unfold w5; split <;> (try split) <;> (try split) <;> (try split) <;> omega) (by omega)))
  have LH := Lib.hid h
  clear h hN hs q0 q1 rd re m1 m2

  go_enter Tryd.func73, Tryd.ntmps73
  go_wp2_with fail
  have V_w1'_1 : Below w.heap.size w (w.alloc (.cells #[.int .i64 a.P, .int .i64 a.party, .int .i64 a.input, .int .i64 a.mask, .int .i64 a.delta, .slice x.sa x.sn x.sc, .slice x.ka x.kn x.kc, .int .i64 a.step, .slice x.ha x.hn x.hc, .int .i64 a.status, .int .i64 a.out] 31)) := ((Below.refl w.heap.size w)).alloc (by have := ((Below.refl w.heap.size w)).size; first | exact this | (simp at *; omega)) _
  have B_a : Blk (w.alloc (.cells #[.int .i64 a.P, .int .i64 a.party, .int .i64 a.input, .int .i64 a.mask, .int .i64 a.delta, .slice x.sa x.sn x.sc, .slice x.ka x.kn x.kc, .int .i64 a.step, .slice x.ha x.hn x.hc, .int .i64 a.status, .int .i64 a.out] 31)) (w.heap.size) 31 #[.int .i64 a.P, .int .i64 a.party, .int .i64 a.input, .int .i64 a.mask, .int .i64 a.delta, .slice x.sa x.sn x.sc, .slice x.ka x.kn x.kc, .int .i64 a.step, .slice x.ha x.hn x.hc, .int .i64 a.status, .int .i64 a.out] := by exact Blk.new w 31 #[.int .i64 a.P, .int .i64 a.party, .int .i64 a.input, .int .i64 a.mask, .int .i64 a.delta, .slice x.sa x.sn x.sc, .slice x.ka x.kn x.kc, .int .i64 a.step, .slice x.ha x.hn x.hc, .int .i64 a.status, .int .i64 a.out]
  have V_w1'_2 : Below w.heap.size w ((w.alloc (.cells #[.int .i64 a.P, .int .i64 a.party, .int .i64 a.input, .int .i64 a.mask, .int .i64 a.delta, .slice x.sa x.sn x.sc, .slice x.ka x.kn x.kc, .int .i64 a.step, .slice x.ha x.hn x.hc, .int .i64 a.status, .int .i64 a.out] 31)).alloc (.cells #[] 3)) := (V_w1'_1).alloc (by have := (V_w1'_1).size; first | exact this | (simp at *; omega)) _
  replace B_a := B_a.alloc (.cells #[] 3)
  have B_z : Blk ((w.alloc (.cells #[.int .i64 a.P, .int .i64 a.party, .int .i64 a.input, .int .i64 a.mask, .int .i64 a.delta, .slice x.sa x.sn x.sc, .slice x.ka x.kn x.kc, .int .i64 a.step, .slice x.ha x.hn x.hc, .int .i64 a.status, .int .i64 a.out] 31)).alloc (.cells #[] 3)) (w.heap.size + 1) 3 #[] := by simpa [World.setCell] using (Blk.new (w.alloc (.cells #[.int .i64 a.P, .int .i64 a.party, .int .i64 a.input, .int .i64 a.mask, .int .i64 a.delta, .slice x.sa x.sn x.sc, .slice x.ka x.kn x.kc, .int .i64 a.step, .slice x.ha x.hn x.hc, .int .i64 a.status, .int .i64 a.out] 31)) 3 #[])
  have S_w1' : w.heap.size + 2 ≤ ((w.alloc (.cells #[.int .i64 a.P, .int .i64 a.party, .int .i64 a.input, .int .i64 a.mask, .int .i64 a.delta, .slice x.sa x.sn x.sc, .slice x.ka x.kn x.kc, .int .i64 a.step, .slice x.ha x.hn x.hc, .int .i64 a.status, .int .i64 a.out] 31)).alloc (.cells #[] 3)).heap.size := by first | (simp; done) | (simp; omega) | (simp [World.setCell]; done) | (simp [World.setCell]; omega)
  generalize ((w.alloc (.cells #[.int .i64 a.P, .int .i64 a.party, .int .i64 a.input, .int .i64 a.mask, .int .i64 a.delta, .slice x.sa x.sn x.sc, .slice x.ka x.kn x.kc, .int .i64 a.step, .slice x.ha x.hn x.hc, .int .i64 a.status, .int .i64 a.out] 31)).alloc (.cells #[] 3)) = w1' at *
  clear V_w1'_1
  have V_w1' : Below w.heap.size w w1' := V_w1'_2
  clear V_w1'_2
  clear B_z
  have e_a_0 : w1'.cell? ⟨w.heap.size, 0, none⟩ = some (.int .i64 a.P) := B_a.cell 0
  have e_a_1 : w1'.cell? ⟨w.heap.size, 1, none⟩ = some (.int .i64 a.party) := B_a.cell 1
  have e_a_2 : w1'.cell? ⟨w.heap.size, 2, none⟩ = some (.int .i64 a.input) := B_a.cell 2
  have e_a_3 : w1'.cell? ⟨w.heap.size, 3, none⟩ = some (.int .i64 a.mask) := B_a.cell 3
  have e_a_4 : w1'.cell? ⟨w.heap.size, 4, none⟩ = some (.int .i64 a.delta) := B_a.cell 4
  have e_a_5 : w1'.cell? ⟨w.heap.size, 5, none⟩ = some (.slice x.sa x.sn x.sc) := B_a.cell 5
  have e_a_6 : w1'.cell? ⟨w.heap.size, 6, none⟩ = some (.slice x.ka x.kn x.kc) := B_a.cell 6
  have e_a_7 : w1'.cell? ⟨w.heap.size, 7, none⟩ = some (.int .i64 a.step) := B_a.cell 7
  have e_a_8 : w1'.cell? ⟨w.heap.size, 8, none⟩ = some (.slice x.ha x.hn x.hc) := B_a.cell 8
  have e_a_9 : w1'.cell? ⟨w.heap.size, 9, none⟩ = some (.int .i64 a.status) := B_a.cell 9
  have e_a_10 : w1'.cell? ⟨w.heap.size, 10, none⟩ = some (.int .i64 a.out) := B_a.cell 10
  go_wp2_with fail
  clear e_a_0 e_a_1 e_a_2 e_a_3 e_a_4 e_a_5 e_a_6 e_a_7 e_a_8 e_a_9 e_a_10
  refine (CT.out _ (LH.out.below V_w1')).mono ?_
  rintro e w2' ⟨b, c, rfl, hF, u_w2'⟩
  replace B_a := B_a.below u_w2'
  have S_w2' := u_w2'.size
  have V_w2' : Below w.heap.size w w2' := V_w1'.trans (u_w2'.mono V_w1'.size)
  clear V_w1'
  clear u_w2'
  go_wp2
  go_loopw [25, 3] (fun v u wr => ∃ k : Nat, k ≤ 2 ∧ v = .int .i64 k ∧ Below w2'.heap.size w2' wr ∧ ∃ c5 d5, u = .slice c5 (2 * k) d5 ∧ Own wr w2'.heap.size c5 (2 * k) d5 ([seV0 a, seT0 a, seV1 a, seT1 a].take (2 * k))) (fun v _ _ => 2 - (intOf v).toNat)
  case atStart => exact ⟨0, by omega, rfl, Below.refl _ _, _, _, rfl, Own.nil0 _ _ _⟩
  case round =>
    obtain ⟨k, hk, rfl, hbel, c5, d5, rfl, own⟩ := hrel
    have VB := V_w2'
    have SB := V_w2'.size

    have B_a := B_a.below hbel
    have V_wr := V_w2'.trans (hbel.mono V_w2'.size)
    have S_wr := hbel.size
    by_cases hlt : k < 2
    · obtain ⟨g, o, rfl, hc⟩ := (hF.below hbel).at (by omega)
      have hcase : k = 0 ∨ k = 1 := by omega
      rcases hcase with rfl | rfl
      · have tc0 : wr.cell? ⟨g, o, none⟩ = some (.int .i64 (1)) := hc 0 (by omega)
        have tc1 : wr.cell? ⟨g, o + 1, none⟩ = some (.int .i64 (0)) := hc 1 (by omega)
        have tc2 : wr.cell? ⟨g, o + 2, none⟩ = some (.int .i64 (-1)) := hc 2 (by omega)
        have tc3 : wr.cell? ⟨g, o + 3, none⟩ = some (.int .i64 (0)) := hc 3 (by omega)
        have tc4 : wr.cell? ⟨g, o + 4, none⟩ = some (.int .i64 (0)) := hc 4 (by omega)
        have tc5 : wr.cell? ⟨g, o + 5, none⟩ = some (.int .i64 (f0 a)) := hc 5 (by omega)
        have own' : Own wr w2'.heap.size c5 0 d5 [] := own
        clear own hc
        rw [show ((0 : Nat) : Int) = 0 from rfl]

        have e_a_0 : wr.cell? ⟨w.heap.size, 0, none⟩ = some (.int .i64 a.P) := B_a.cell 0
        have e_a_1 : wr.cell? ⟨w.heap.size, 1, none⟩ = some (.int .i64 a.party) := B_a.cell 1
        have e_a_2 : wr.cell? ⟨w.heap.size, 2, none⟩ = some (.int .i64 a.input) := B_a.cell 2
        have e_a_3 : wr.cell? ⟨w.heap.size, 3, none⟩ = some (.int .i64 a.mask) := B_a.cell 3
        have e_a_4 : wr.cell? ⟨w.heap.size, 4, none⟩ = some (.int .i64 a.delta) := B_a.cell 4
        have e_a_5 : wr.cell? ⟨w.heap.size, 5, none⟩ = some (.slice x.sa x.sn x.sc) := B_a.cell 5
        have e_a_6 : wr.cell? ⟨w.heap.size, 6, none⟩ = some (.slice x.ka x.kn x.kc) := B_a.cell 6
        have e_a_7 : wr.cell? ⟨w.heap.size, 7, none⟩ = some (.int .i64 a.step) := B_a.cell 7
        have e_a_8 : wr.cell? ⟨w.heap.size, 8, none⟩ = some (.slice x.ha x.hn x.hc) := B_a.cell 8
        have e_a_9 : wr.cell? ⟨w.heap.size, 9, none⟩ = some (.int .i64 a.status) := B_a.cell 9
        have e_a_10 : wr.cell? ⟨w.heap.size, 10, none⟩ = some (.int .i64 a.out) := B_a.cell 10
        have V9 : Below wr.heap.size wr (wr.alloc (.cells #[.int .i64 (1), .int .i64 (0), .int .i64 (-1), .int .i64 (0), .int .i64 (0), .int .i64 (f0 a)] 123)) := (Below.refl _ _).alloc (Nat.le_refl _) _
        have p0 := keepC V9 e_a_0
        have p1 := keepC V9 e_a_1
        have p2 := keepC V9 e_a_2
        have p3 := keepC V9 e_a_3
        have p4 := keepC V9 e_a_4
        have p5 := keepC V9 e_a_5
        have p6 := keepC V9 e_a_6
        have p7 := keepC V9 e_a_7
        have p8 := keepC V9 e_a_8
        have p9 := keepC V9 e_a_9
        have p10 := keepC V9 e_a_10
        go_wp2_with fail
        refine (C0.out _ ((LH.out.below V_wr).below V9)).mono ?_; rintro e wy ⟨rfl, u⟩
        have u9 := V9.trans (u.mono V9.size)
        have own2 := own'.below u9
        have V10 := V_wr.trans (u9.mono V_wr.size)
        have hb9 := hbel.trans (u9.mono hbel.size)
        have VX := V10.alloc V10.size (.cells #[.int .i64 (seV0 a), .int .i64 (seT0 a)] 81)
        have hbX := hb9.alloc hb9.size (.cells #[.int .i64 (seV0 a), .int .i64 (seT0 a)] 81)
        have own3 := own2.alloc (.cells #[.int .i64 (seV0 a), .int .i64 (seT0 a)] 81)
        clear e_a_0 e_a_1 e_a_2 e_a_3 e_a_4 e_a_5 e_a_6 e_a_7 e_a_8 e_a_9 e_a_10
        clear own' own2 V10 hb9 u9 u V9 tc0 tc1 tc2 tc3 tc4 tc5 p0 p1 p2 p3 p4 p5 p6 p7 p8 p9 p10
        have SX := VX.size
        have SY := hbX.size
        have LIT : Ints ((wy.alloc (.cells #[.int .i64 (seV0 a), .int .i64 (seT0 a)] 81)).alloc (.cells #[.int .i64 (seV0 a), .int .i64 (seT0 a)] 3)) (some ⟨wy.heap.size + 1, 0, none⟩) 2 2 [seV0 a, seT0 a] := by simpa using Ints.lit2 (wy.alloc (.cells #[.int .i64 (seV0 a), .int .i64 (seT0 a)] 81)) (seV0 a) (seT0 a) 3
        have TR : Hid (([seV0 a, seT0 a, seV1 a, seT1 a] : List Int).take (2 * (0 + 1)) = [] ++ [seV0 a, seT0 a]) := Lib.hid rfl
        go_wp2_with (at_builtin; refine wpList_appI _ rfl _ _ rfl w2'.heap.size c5 0 d5 [] rfl (own3.alloc _) _ 2 2 [seV0 a, seT0 a] rfl LIT (by omega) (by simp at *; omega) ?_)
        intro a6 c6 w6 o6 u6 g6
        have hb7 := (hbX.alloc hbX.size _).trans u6
        clear u6 g6 LIT own3 hbX VX SX SY
        go_wp2
        go_roundw
        case rel => exact ⟨0 + 1, by omega, by go_num, hb7, a6, c6, rfl, by rw [TR.out]; exact o6⟩
        case measure => simp [intOf]

      · have tc0 : wr.cell? ⟨g, o + 6, none⟩ = some (.int .i64 (0)) := hc 6 (by omega)
        have tc1 : wr.cell? ⟨g, o + 7, none⟩ = some (.int .i64 (1)) := hc 7 (by omega)
        have tc2 : wr.cell? ⟨g, o + 8, none⟩ = some (.int .i64 (0)) := hc 8 (by omega)
        have tc3 : wr.cell? ⟨g, o + 9, none⟩ = some (.int .i64 (-1)) := hc 9 (by omega)
        have tc4 : wr.cell? ⟨g, o + 10, none⟩ = some (.int .i64 (0)) := hc 10 (by omega)
        have tc5 : wr.cell? ⟨g, o + 11, none⟩ = some (.int .i64 (f1 a)) := hc 11 (by omega)
        have own' : Own wr w2'.heap.size c5 2 d5 [seV0 a, seT0 a] := own
        clear own hc
        rw [show ((1 : Nat) : Int) = 1 from rfl]

        have e_a_0 : wr.cell? ⟨w.heap.size, 0, none⟩ = some (.int .i64 a.P) := B_a.cell 0
        have e_a_1 : wr.cell? ⟨w.heap.size, 1, none⟩ = some (.int .i64 a.party) := B_a.cell 1
        have e_a_2 : wr.cell? ⟨w.heap.size, 2, none⟩ = some (.int .i64 a.input) := B_a.cell 2
        have e_a_3 : wr.cell? ⟨w.heap.size, 3, none⟩ = some (.int .i64 a.mask) := B_a.cell 3
        have e_a_4 : wr.cell? ⟨w.heap.size, 4, none⟩ = some (.int .i64 a.delta) := B_a.cell 4
        have e_a_5 : wr.cell? ⟨w.heap.size, 5, none⟩ = some (.slice x.sa x.sn x.sc) := B_a.cell 5
        have e_a_6 : wr.cell? ⟨w.heap.size, 6, none⟩ = some (.slice x.ka x.kn x.kc) := B_a.cell 6
        have e_a_7 : wr.cell? ⟨w.heap.size, 7, none⟩ = some (.int .i64 a.step) := B_a.cell 7
        have e_a_8 : wr.cell? ⟨w.heap.size, 8, none⟩ = some (.slice x.ha x.hn x.hc) := B_a.cell 8
        have e_a_9 : wr.cell? ⟨w.heap.size, 9, none⟩ = some (.int .i64 a.status) := B_a.cell 9
        have e_a_10 : wr.cell? ⟨w.heap.size, 10, none⟩ = some (.int .i64 a.out) := B_a.cell 10
        have V9 : Below wr.heap.size wr (wr.alloc (.cells #[.int .i64 (0), .int .i64 (1), .int .i64 (0), .int .i64 (-1), .int .i64 (0), .int .i64 (f1 a)] 123)) := (Below.refl _ _).alloc (Nat.le_refl _) _
        have p0 := keepC V9 e_a_0
        have p1 := keepC V9 e_a_1
        have p2 := keepC V9 e_a_2
        have p3 := keepC V9 e_a_3
        have p4 := keepC V9 e_a_4
        have p5 := keepC V9 e_a_5
        have p6 := keepC V9 e_a_6
        have p7 := keepC V9 e_a_7
        have p8 := keepC V9 e_a_8
        have p9 := keepC V9 e_a_9
        have p10 := keepC V9 e_a_10
        go_wp2_with fail
        refine (C1.out _ ((LH.out.below V_wr).below V9)).mono ?_; rintro e wy ⟨rfl, u⟩
        have u9 := V9.trans (u.mono V9.size)
        have own2 := own'.below u9
        have V10 := V_wr.trans (u9.mono V_wr.size)
        have hb9 := hbel.trans (u9.mono hbel.size)
        have VX := V10.alloc V10.size (.cells #[.int .i64 (seV1 a), .int .i64 (seT1 a)] 81)
        have hbX := hb9.alloc hb9.size (.cells #[.int .i64 (seV1 a), .int .i64 (seT1 a)] 81)
        have own3 := own2.alloc (.cells #[.int .i64 (seV1 a), .int .i64 (seT1 a)] 81)
        clear e_a_0 e_a_1 e_a_2 e_a_3 e_a_4 e_a_5 e_a_6 e_a_7 e_a_8 e_a_9 e_a_10
        clear own' own2 V10 hb9 u9 u V9 tc0 tc1 tc2 tc3 tc4 tc5 p0 p1 p2 p3 p4 p5 p6 p7 p8 p9 p10
        have SX := VX.size
        have SY := hbX.size
        have LIT : Ints ((wy.alloc (.cells #[.int .i64 (seV1 a), .int .i64 (seT1 a)] 81)).alloc (.cells #[.int .i64 (seV1 a), .int .i64 (seT1 a)] 3)) (some ⟨wy.heap.size + 1, 0, none⟩) 2 2 [seV1 a, seT1 a] := by simpa using Ints.lit2 (wy.alloc (.cells #[.int .i64 (seV1 a), .int .i64 (seT1 a)] 81)) (seV1 a) (seT1 a) 3
        have TR : Hid (([seV0 a, seT0 a, seV1 a, seT1 a] : List Int).take (2 * (1 + 1)) = [seV0 a, seT0 a] ++ [seV1 a, seT1 a]) := Lib.hid rfl
        go_wp2_with (at_builtin; refine wpList_appI _ rfl _ _ rfl w2'.heap.size c5 2 d5 [seV0 a, seT0 a] rfl (own3.alloc _) _ 2 2 [seV1 a, seT1 a] rfl LIT (by omega) (by simp at *; omega) ?_)
        intro a6 c6 w6 o6 u6 g6
        have hb7 := (hbX.alloc hbX.size _).trans u6
        clear u6 g6 LIT own3 hbX VX SX SY
        go_wp2
        go_roundw
        case rel => exact ⟨1 + 1, by omega, by go_num, hb7, a6, c6, rfl, by rw [TR.out]; exact o6⟩
        case measure => simp [intOf]

    · obtain rfl : k = 2 := by omega
      have own' : Own wr w2'.heap.size c5 4 d5 [seV0 a, seT0 a, seV1 a, seT1 a] := own
      go_wp2
      go_ret
      exact ⟨_, _, rfl, own'.lower SB, VB.trans (hbel.mono SB)⟩

set_option maxHeartbeats 16000000 in
set_option maxRecDepth 100000 in
theorem body_2 (a : Pl) (x : PlX) (w : World) (h : PlR w x a.shares a.keys a.heard) (hN : PlN a) (hs : a.step = 2) :
    Calls Tryd.prog 73 #[.agg #[.int .i64 a.P, .int .i64 a.party, .int .i64 a.input, .int .i64 a.mask, .int .i64 a.delta, .slice x.sa x.sn x.sc, .slice x.ka x.kn x.kc, .int .i64 a.step, .slice x.ha x.hn x.hc, .int .i64 a.status, .int .i64 a.out]] w fun e w' => ∃ b c, e = .returned (.slice b 2 c) ∧ Own w' w.heap.size b 2 c [thV a, thT a] ∧ Below w.heap.size w w' := by
  have hp1 := hN.p1
  have hp2 := hN.p2
  have q0 := f0_rng hN (by omega)
  have q1 := f1_rng hN (by omega)
  have rd := dI_rng hN
  have re := eI_rng hN
  have m1 : 0 ≤ dI a * eI a := Int.mul_nonneg rd.1 re.1
  have m2 : dI a * eI a ≤ 1000 * 1000 := Int.mul_le_mul (by omega) (by omega) re.1 (by omega)
  have k0 : ((a.step == 0) : Bool) = false := by simp; omega
  have CT := Lib.hid (fun (W : World) (h2 : PlR W x a.shares a.keys a.heard) => terms_2s a.step hs a x W h2 hN (by omega))
  have C0 := Lib.hid (fun (W : World) (h2 : PlR W x a.shares a.keys a.heard) => (show Calls Tryd.prog 110 #[.agg #[.int .i64 a.P, .int .i64 a.party, .int .i64 a.input, .int .i64 a.mask, .int .i64 a.delta, .slice x.sa x.sn x.sc, .slice x.ka x.kn x.kc, .int .i64 a.step, .slice x.ha x.hn x.hc, .int .i64 a.status, .int .i64 a.out], .agg #[.int .i64 (0), .int .i64 (0), .int .i64 (eI a), .int .i64 (dI a), .int .i64 (1), .int .i64 (dI a * eI a)]] W fun e w' => e = .returned (.agg #[.int .i64 (thV a), .int .i64 (thT a)]) ∧ Below W.heap.size W w' from own_any a x (0) (0) (eI a) (dI a) (1) (dI a * eI a) W h2 hN (fun i _ => by unfold w5; split <;> (try split) <;> (try split) <;> (try split) <;> omega) (by omega)))
  have LH := Lib.hid h
  clear h hN hs q0 q1 rd re m1 m2

  go_enter Tryd.func73, Tryd.ntmps73
  go_wp2_with fail
  have V_w1'_1 : Below w.heap.size w (w.alloc (.cells #[.int .i64 a.P, .int .i64 a.party, .int .i64 a.input, .int .i64 a.mask, .int .i64 a.delta, .slice x.sa x.sn x.sc, .slice x.ka x.kn x.kc, .int .i64 a.step, .slice x.ha x.hn x.hc, .int .i64 a.status, .int .i64 a.out] 31)) := ((Below.refl w.heap.size w)).alloc (by have := ((Below.refl w.heap.size w)).size; first | exact this | (simp at *; omega)) _
  have B_a : Blk (w.alloc (.cells #[.int .i64 a.P, .int .i64 a.party, .int .i64 a.input, .int .i64 a.mask, .int .i64 a.delta, .slice x.sa x.sn x.sc, .slice x.ka x.kn x.kc, .int .i64 a.step, .slice x.ha x.hn x.hc, .int .i64 a.status, .int .i64 a.out] 31)) (w.heap.size) 31 #[.int .i64 a.P, .int .i64 a.party, .int .i64 a.input, .int .i64 a.mask, .int .i64 a.delta, .slice x.sa x.sn x.sc, .slice x.ka x.kn x.kc, .int .i64 a.step, .slice x.ha x.hn x.hc, .int .i64 a.status, .int .i64 a.out] := by exact Blk.new w 31 #[.int .i64 a.P, .int .i64 a.party, .int .i64 a.input, .int .i64 a.mask, .int .i64 a.delta, .slice x.sa x.sn x.sc, .slice x.ka x.kn x.kc, .int .i64 a.step, .slice x.ha x.hn x.hc, .int .i64 a.status, .int .i64 a.out]
  have V_w1'_2 : Below w.heap.size w ((w.alloc (.cells #[.int .i64 a.P, .int .i64 a.party, .int .i64 a.input, .int .i64 a.mask, .int .i64 a.delta, .slice x.sa x.sn x.sc, .slice x.ka x.kn x.kc, .int .i64 a.step, .slice x.ha x.hn x.hc, .int .i64 a.status, .int .i64 a.out] 31)).alloc (.cells #[] 3)) := (V_w1'_1).alloc (by have := (V_w1'_1).size; first | exact this | (simp at *; omega)) _
  replace B_a := B_a.alloc (.cells #[] 3)
  have B_z : Blk ((w.alloc (.cells #[.int .i64 a.P, .int .i64 a.party, .int .i64 a.input, .int .i64 a.mask, .int .i64 a.delta, .slice x.sa x.sn x.sc, .slice x.ka x.kn x.kc, .int .i64 a.step, .slice x.ha x.hn x.hc, .int .i64 a.status, .int .i64 a.out] 31)).alloc (.cells #[] 3)) (w.heap.size + 1) 3 #[] := by simpa [World.setCell] using (Blk.new (w.alloc (.cells #[.int .i64 a.P, .int .i64 a.party, .int .i64 a.input, .int .i64 a.mask, .int .i64 a.delta, .slice x.sa x.sn x.sc, .slice x.ka x.kn x.kc, .int .i64 a.step, .slice x.ha x.hn x.hc, .int .i64 a.status, .int .i64 a.out] 31)) 3 #[])
  have S_w1' : w.heap.size + 2 ≤ ((w.alloc (.cells #[.int .i64 a.P, .int .i64 a.party, .int .i64 a.input, .int .i64 a.mask, .int .i64 a.delta, .slice x.sa x.sn x.sc, .slice x.ka x.kn x.kc, .int .i64 a.step, .slice x.ha x.hn x.hc, .int .i64 a.status, .int .i64 a.out] 31)).alloc (.cells #[] 3)).heap.size := by first | (simp; done) | (simp; omega) | (simp [World.setCell]; done) | (simp [World.setCell]; omega)
  generalize ((w.alloc (.cells #[.int .i64 a.P, .int .i64 a.party, .int .i64 a.input, .int .i64 a.mask, .int .i64 a.delta, .slice x.sa x.sn x.sc, .slice x.ka x.kn x.kc, .int .i64 a.step, .slice x.ha x.hn x.hc, .int .i64 a.status, .int .i64 a.out] 31)).alloc (.cells #[] 3)) = w1' at *
  clear V_w1'_1
  have V_w1' : Below w.heap.size w w1' := V_w1'_2
  clear V_w1'_2
  clear B_z
  have e_a_0 : w1'.cell? ⟨w.heap.size, 0, none⟩ = some (.int .i64 a.P) := B_a.cell 0
  have e_a_1 : w1'.cell? ⟨w.heap.size, 1, none⟩ = some (.int .i64 a.party) := B_a.cell 1
  have e_a_2 : w1'.cell? ⟨w.heap.size, 2, none⟩ = some (.int .i64 a.input) := B_a.cell 2
  have e_a_3 : w1'.cell? ⟨w.heap.size, 3, none⟩ = some (.int .i64 a.mask) := B_a.cell 3
  have e_a_4 : w1'.cell? ⟨w.heap.size, 4, none⟩ = some (.int .i64 a.delta) := B_a.cell 4
  have e_a_5 : w1'.cell? ⟨w.heap.size, 5, none⟩ = some (.slice x.sa x.sn x.sc) := B_a.cell 5
  have e_a_6 : w1'.cell? ⟨w.heap.size, 6, none⟩ = some (.slice x.ka x.kn x.kc) := B_a.cell 6
  have e_a_7 : w1'.cell? ⟨w.heap.size, 7, none⟩ = some (.int .i64 a.step) := B_a.cell 7
  have e_a_8 : w1'.cell? ⟨w.heap.size, 8, none⟩ = some (.slice x.ha x.hn x.hc) := B_a.cell 8
  have e_a_9 : w1'.cell? ⟨w.heap.size, 9, none⟩ = some (.int .i64 a.status) := B_a.cell 9
  have e_a_10 : w1'.cell? ⟨w.heap.size, 10, none⟩ = some (.int .i64 a.out) := B_a.cell 10
  go_wp2_with fail
  clear e_a_0 e_a_1 e_a_2 e_a_3 e_a_4 e_a_5 e_a_6 e_a_7 e_a_8 e_a_9 e_a_10
  refine (CT.out _ (LH.out.below V_w1')).mono ?_
  rintro e w2' ⟨b, c, rfl, hF, u_w2'⟩
  replace B_a := B_a.below u_w2'
  have S_w2' := u_w2'.size
  have V_w2' : Below w.heap.size w w2' := V_w1'.trans (u_w2'.mono V_w1'.size)
  clear V_w1'
  clear u_w2'
  go_wp2
  go_loopw [25, 3] (fun v u wr => ∃ k : Nat, k ≤ 1 ∧ v = .int .i64 k ∧ Below w2'.heap.size w2' wr ∧ ∃ c5 d5, u = .slice c5 (2 * k) d5 ∧ Own wr w2'.heap.size c5 (2 * k) d5 ([thV a, thT a].take (2 * k))) (fun v _ _ => 1 - (intOf v).toNat)
  case atStart => exact ⟨0, by omega, rfl, Below.refl _ _, _, _, rfl, Own.nil0 _ _ _⟩
  case round =>
    obtain ⟨k, hk, rfl, hbel, c5, d5, rfl, own⟩ := hrel
    have VB := V_w2'
    have SB := V_w2'.size

    have B_a := B_a.below hbel
    have V_wr := V_w2'.trans (hbel.mono V_w2'.size)
    have S_wr := hbel.size
    by_cases hlt : k < 1
    · obtain ⟨g, o, rfl, hc⟩ := (hF.below hbel).at (by omega)
      obtain rfl : k = 0 := by omega
      have tc0 : wr.cell? ⟨g, o, none⟩ = some (.int .i64 (0)) := hc 0 (by omega)
      have tc1 : wr.cell? ⟨g, o + 1, none⟩ = some (.int .i64 (0)) := hc 1 (by omega)
      have tc2 : wr.cell? ⟨g, o + 2, none⟩ = some (.int .i64 (eI a)) := hc 2 (by omega)
      have tc3 : wr.cell? ⟨g, o + 3, none⟩ = some (.int .i64 (dI a)) := hc 3 (by omega)
      have tc4 : wr.cell? ⟨g, o + 4, none⟩ = some (.int .i64 (1)) := hc 4 (by omega)
      have tc5 : wr.cell? ⟨g, o + 5, none⟩ = some (.int .i64 (dI a * eI a)) := hc 5 (by omega)
      have own' : Own wr w2'.heap.size c5 0 d5 [] := own
      clear own hc
      rw [show ((0 : Nat) : Int) = 0 from rfl]

      have e_a_0 : wr.cell? ⟨w.heap.size, 0, none⟩ = some (.int .i64 a.P) := B_a.cell 0
      have e_a_1 : wr.cell? ⟨w.heap.size, 1, none⟩ = some (.int .i64 a.party) := B_a.cell 1
      have e_a_2 : wr.cell? ⟨w.heap.size, 2, none⟩ = some (.int .i64 a.input) := B_a.cell 2
      have e_a_3 : wr.cell? ⟨w.heap.size, 3, none⟩ = some (.int .i64 a.mask) := B_a.cell 3
      have e_a_4 : wr.cell? ⟨w.heap.size, 4, none⟩ = some (.int .i64 a.delta) := B_a.cell 4
      have e_a_5 : wr.cell? ⟨w.heap.size, 5, none⟩ = some (.slice x.sa x.sn x.sc) := B_a.cell 5
      have e_a_6 : wr.cell? ⟨w.heap.size, 6, none⟩ = some (.slice x.ka x.kn x.kc) := B_a.cell 6
      have e_a_7 : wr.cell? ⟨w.heap.size, 7, none⟩ = some (.int .i64 a.step) := B_a.cell 7
      have e_a_8 : wr.cell? ⟨w.heap.size, 8, none⟩ = some (.slice x.ha x.hn x.hc) := B_a.cell 8
      have e_a_9 : wr.cell? ⟨w.heap.size, 9, none⟩ = some (.int .i64 a.status) := B_a.cell 9
      have e_a_10 : wr.cell? ⟨w.heap.size, 10, none⟩ = some (.int .i64 a.out) := B_a.cell 10
      have V9 : Below wr.heap.size wr (wr.alloc (.cells #[.int .i64 (0), .int .i64 (0), .int .i64 (eI a), .int .i64 (dI a), .int .i64 (1), .int .i64 (dI a * eI a)] 123)) := (Below.refl _ _).alloc (Nat.le_refl _) _
      have p0 := keepC V9 e_a_0
      have p1 := keepC V9 e_a_1
      have p2 := keepC V9 e_a_2
      have p3 := keepC V9 e_a_3
      have p4 := keepC V9 e_a_4
      have p5 := keepC V9 e_a_5
      have p6 := keepC V9 e_a_6
      have p7 := keepC V9 e_a_7
      have p8 := keepC V9 e_a_8
      have p9 := keepC V9 e_a_9
      have p10 := keepC V9 e_a_10
      go_wp2_with fail
      refine (C0.out _ ((LH.out.below V_wr).below V9)).mono ?_; rintro e wy ⟨rfl, u⟩
      have u9 := V9.trans (u.mono V9.size)
      have own2 := own'.below u9
      have V10 := V_wr.trans (u9.mono V_wr.size)
      have hb9 := hbel.trans (u9.mono hbel.size)
      have VX := V10.alloc V10.size (.cells #[.int .i64 (thV a), .int .i64 (thT a)] 81)
      have hbX := hb9.alloc hb9.size (.cells #[.int .i64 (thV a), .int .i64 (thT a)] 81)
      have own3 := own2.alloc (.cells #[.int .i64 (thV a), .int .i64 (thT a)] 81)
      clear e_a_0 e_a_1 e_a_2 e_a_3 e_a_4 e_a_5 e_a_6 e_a_7 e_a_8 e_a_9 e_a_10
      clear own' own2 V10 hb9 u9 u V9 tc0 tc1 tc2 tc3 tc4 tc5 p0 p1 p2 p3 p4 p5 p6 p7 p8 p9 p10
      have SX := VX.size
      have SY := hbX.size
      have LIT : Ints ((wy.alloc (.cells #[.int .i64 (thV a), .int .i64 (thT a)] 81)).alloc (.cells #[.int .i64 (thV a), .int .i64 (thT a)] 3)) (some ⟨wy.heap.size + 1, 0, none⟩) 2 2 [thV a, thT a] := by simpa using Ints.lit2 (wy.alloc (.cells #[.int .i64 (thV a), .int .i64 (thT a)] 81)) (thV a) (thT a) 3
      have TR : Hid (([thV a, thT a] : List Int).take (2 * (0 + 1)) = [] ++ [thV a, thT a]) := Lib.hid rfl
      go_wp2_with (at_builtin; refine wpList_appI _ rfl _ _ rfl w2'.heap.size c5 0 d5 [] rfl (own3.alloc _) _ 2 2 [thV a, thT a] rfl LIT (by omega) (by simp at *; omega) ?_)
      intro a6 c6 w6 o6 u6 g6
      have hb7 := (hbX.alloc hbX.size _).trans u6
      clear u6 g6 LIT own3 hbX VX SX SY
      go_wp2
      go_roundw
      case rel => exact ⟨0 + 1, by omega, by go_num, hb7, a6, c6, rfl, by rw [TR.out]; exact o6⟩
      case measure => simp [intOf]

    · obtain rfl : k = 1 := by omega
      have own' : Own wr w2'.heap.size c5 2 d5 [thV a, thT a] := own
      go_wp2
      go_ret
      exact ⟨_, _, rfl, own'.lower SB, VB.trans (hbel.mono SB)⟩

end Go.Proofs.YtlmdckcohoddnaaDoor
