/- Players: the reference's body and message. -/
import Derived.Test.YtlmdckcohoddnaaDoorSpC
import Derived.Test.YtlmdckcohoddnaaDoorAcc
namespace Go.Proofs.YtlmdckcohoddnaaDoor
open Go.RowKit
set_option maxHeartbeats 8000000 in
set_option maxRecDepth 100000 in
theorem ptBody_0 (a : Pl) (x : PlX) (w : World) (hN : PlN a) (hs : a.step = 0) :
    Calls Tryd.prog 108 #[.agg #[.int .i64 a.P, .int .i64 a.party, .int .i64 a.input, .int .i64 a.mask, .int .i64 a.delta, .slice x.sa x.sn x.sc, .slice x.ka x.kn x.kc, .int .i64 a.step, .slice x.ha x.hn x.hc, .int .i64 a.status, .int .i64 a.out]] w fun e w' => ∃ b c, e = .returned (.slice b 1 c) ∧ Own w' w.heap.size b 1 c [mkI a] ∧ Below w.heap.size w w' := by
  have hp1 := hN.p1
  have hp2 := hN.p2
  have hip := hN.ip
  have hmk := hN.mks
  have k0 : ((a.step == 0) : Bool) = true := by simpa using hs
  have HM : Hid ((a.input - a.mask) % a.P = mkI a) := Lib.hid rfl
  have t1 : IntKind.i64.wrap (a.input - a.mask) = a.input - a.mask := IntWalk.i64_in _ (by omega)
  clear hs hN

  go_enter Tryd.func108, Tryd.ntmps108
  go_wp2_with fail
  have V_w1'_1 : Below w.heap.size w (w.alloc (.cells #[.int .i64 a.P, .int .i64 a.party, .int .i64 a.input, .int .i64 a.mask, .int .i64 a.delta, .slice x.sa x.sn x.sc, .slice x.ka x.kn x.kc, .int .i64 a.step, .slice x.ha x.hn x.hc, .int .i64 a.status, .int .i64 a.out] 31)) := ((Below.refl w.heap.size w)).alloc (by have := ((Below.refl w.heap.size w)).size; first | exact this | (simp at *; omega)) _
  have B_a : Blk (w.alloc (.cells #[.int .i64 a.P, .int .i64 a.party, .int .i64 a.input, .int .i64 a.mask, .int .i64 a.delta, .slice x.sa x.sn x.sc, .slice x.ka x.kn x.kc, .int .i64 a.step, .slice x.ha x.hn x.hc, .int .i64 a.status, .int .i64 a.out] 31)) (w.heap.size) 31 #[.int .i64 a.P, .int .i64 a.party, .int .i64 a.input, .int .i64 a.mask, .int .i64 a.delta, .slice x.sa x.sn x.sc, .slice x.ka x.kn x.kc, .int .i64 a.step, .slice x.ha x.hn x.hc, .int .i64 a.status, .int .i64 a.out] := by exact Blk.new w 31 #[.int .i64 a.P, .int .i64 a.party, .int .i64 a.input, .int .i64 a.mask, .int .i64 a.delta, .slice x.sa x.sn x.sc, .slice x.ka x.kn x.kc, .int .i64 a.step, .slice x.ha x.hn x.hc, .int .i64 a.status, .int .i64 a.out]
  have S_w1' : w.heap.size + 1 ≤ (w.alloc (.cells #[.int .i64 a.P, .int .i64 a.party, .int .i64 a.input, .int .i64 a.mask, .int .i64 a.delta, .slice x.sa x.sn x.sc, .slice x.ka x.kn x.kc, .int .i64 a.step, .slice x.ha x.hn x.hc, .int .i64 a.status, .int .i64 a.out] 31)).heap.size := by first | (simp; done) | (simp; omega) | (simp [World.setCell]; done) | (simp [World.setCell]; omega)
  generalize (w.alloc (.cells #[.int .i64 a.P, .int .i64 a.party, .int .i64 a.input, .int .i64 a.mask, .int .i64 a.delta, .slice x.sa x.sn x.sc, .slice x.ka x.kn x.kc, .int .i64 a.step, .slice x.ha x.hn x.hc, .int .i64 a.status, .int .i64 a.out] 31)) = w1' at *
  have V_w1' : Below w.heap.size w w1' := V_w1'_1
  clear V_w1'_1
  refine (btMod_same _ _ _ (by omega) (by omega)).mono ?_; rintro e w' ⟨rfl, hw⟩; replace hw := hw.symm; subst hw
  rw [HM.out]
  go_wp2
  go_ret
  exact ⟨_, _, rfl, (Own.lit w1' _ [mkI a] (Nat.le_refl _) (by simp [maxLen])).lower V_w1'.size, V_w1'.alloc V_w1'.size _⟩
set_option maxHeartbeats 8000000 in
set_option maxRecDepth 100000 in
theorem ptBody_1 (a : Pl) (x : PlX) (w : World) (h : PlR w x a.shares a.keys a.heard) (hN : PlN a) (hs : a.step = 1) :
    Calls Tryd.prog 108 #[.agg #[.int .i64 a.P, .int .i64 a.party, .int .i64 a.input, .int .i64 a.mask, .int .i64 a.delta, .slice x.sa x.sn x.sc, .slice x.ka x.kn x.kc, .int .i64 a.step, .slice x.ha x.hn x.hc, .int .i64 a.status, .int .i64 a.out]] w fun e w' => ∃ b c, e = .returned (.slice b 4 c) ∧ Own w' w.heap.size b 4 c [seV0 a, seT0 a, seV1 a, seT1 a] ∧ Below w.heap.size w w' := by
  have k0 : ((a.step == 0) : Bool) = false := by simp; omega
  have k1 : ((a.step == 1) : Bool) = true := by simpa using hs
  have CF := Lib.hid (fun (W : World) (h2 : PlR W x a.shares a.keys a.heard) => ptSecond_any a x W h2 hN (by omega))
  have LH := Lib.hid h
  clear hs hN h
  generalize seV0 a = z0 at *
  generalize seT0 a = s0 at *
  generalize seV1 a = z1 at *
  generalize seT1 a = s1 at *

  go_enter Tryd.func108, Tryd.ntmps108
  go_wp2_with fail
  have V_w1'_1 : Below w.heap.size w (w.alloc (.cells #[.int .i64 a.P, .int .i64 a.party, .int .i64 a.input, .int .i64 a.mask, .int .i64 a.delta, .slice x.sa x.sn x.sc, .slice x.ka x.kn x.kc, .int .i64 a.step, .slice x.ha x.hn x.hc, .int .i64 a.status, .int .i64 a.out] 31)) := ((Below.refl w.heap.size w)).alloc (by have := ((Below.refl w.heap.size w)).size; first | exact this | (simp at *; omega)) _
  have B_a : Blk (w.alloc (.cells #[.int .i64 a.P, .int .i64 a.party, .int .i64 a.input, .int .i64 a.mask, .int .i64 a.delta, .slice x.sa x.sn x.sc, .slice x.ka x.kn x.kc, .int .i64 a.step, .slice x.ha x.hn x.hc, .int .i64 a.status, .int .i64 a.out] 31)) (w.heap.size) 31 #[.int .i64 a.P, .int .i64 a.party, .int .i64 a.input, .int .i64 a.mask, .int .i64 a.delta, .slice x.sa x.sn x.sc, .slice x.ka x.kn x.kc, .int .i64 a.step, .slice x.ha x.hn x.hc, .int .i64 a.status, .int .i64 a.out] := by exact Blk.new w 31 #[.int .i64 a.P, .int .i64 a.party, .int .i64 a.input, .int .i64 a.mask, .int .i64 a.delta, .slice x.sa x.sn x.sc, .slice x.ka x.kn x.kc, .int .i64 a.step, .slice x.ha x.hn x.hc, .int .i64 a.status, .int .i64 a.out]
  have S_w1' : w.heap.size + 1 ≤ (w.alloc (.cells #[.int .i64 a.P, .int .i64 a.party, .int .i64 a.input, .int .i64 a.mask, .int .i64 a.delta, .slice x.sa x.sn x.sc, .slice x.ka x.kn x.kc, .int .i64 a.step, .slice x.ha x.hn x.hc, .int .i64 a.status, .int .i64 a.out] 31)).heap.size := by first | (simp; done) | (simp; omega) | (simp [World.setCell]; done) | (simp [World.setCell]; omega)
  generalize (w.alloc (.cells #[.int .i64 a.P, .int .i64 a.party, .int .i64 a.input, .int .i64 a.mask, .int .i64 a.delta, .slice x.sa x.sn x.sc, .slice x.ka x.kn x.kc, .int .i64 a.step, .slice x.ha x.hn x.hc, .int .i64 a.status, .int .i64 a.out] 31)) = w1' at *
  have V_w1' : Below w.heap.size w w1' := V_w1'_1
  clear V_w1'_1
  refine (CF.out _ (LH.out.below V_w1')).mono ?_
  rintro e w2' ⟨bf, cf, rfl, hf, u_w2'⟩
  replace B_a := B_a.below u_w2'
  have S_w2' := u_w2'.size
  have V_w2' : Below w.heap.size w w2' := V_w1'.trans (u_w2'.mono V_w1'.size)
  clear V_w1'
  clear u_w2'
  obtain ⟨gf, of, rfl, hfc⟩ := hf.at (by omega)
  have c0 : w2'.cell? ⟨gf, of, none⟩ = some (.int .i64 z0) := hfc 0 (by omega)
  have c1 : w2'.cell? ⟨gf, of + 1, none⟩ = some (.int .i64 s0) := hfc 1 (by omega)
  have c2 : w2'.cell? ⟨gf, of + 2, none⟩ = some (.int .i64 z1) := hfc 2 (by omega)
  have c3 : w2'.cell? ⟨gf, of + 3, none⟩ = some (.int .i64 s1) := hfc 3 (by omega)
  clear hfc hf
  go_wp2
  go_region
  go_wp2
  go_ret
  exact ⟨_, _, rfl, ((Own.lit w2' _ [z0, s0, z1, s1] (Nat.le_refl _) (by simp [maxLen])).drew).lower V_w2'.size, (V_w2'.alloc V_w2'.size _).drew⟩
set_option maxHeartbeats 8000000 in
set_option maxRecDepth 100000 in
theorem ptBody_2 (a : Pl) (x : PlX) (w : World) (h : PlR w x a.shares a.keys a.heard) (hN : PlN a) (hs : a.step = 2) :
    Calls Tryd.prog 108 #[.agg #[.int .i64 a.P, .int .i64 a.party, .int .i64 a.input, .int .i64 a.mask, .int .i64 a.delta, .slice x.sa x.sn x.sc, .slice x.ka x.kn x.kc, .int .i64 a.step, .slice x.ha x.hn x.hc, .int .i64 a.status, .int .i64 a.out]] w fun e w' => ∃ b c, e = .returned (.slice b 2 c) ∧ Own w' w.heap.size b 2 c [thV a, thT a] ∧ Below w.heap.size w w' := by
  have k0 : ((a.step == 0) : Bool) = false := by simp; omega
  have k1 : ((a.step == 1) : Bool) = false := by simp; omega
  have CF := Lib.hid (fun (W : World) (h2 : PlR W x a.shares a.keys a.heard) => ptThird_any a x W h2 hN (by omega))
  have LH := Lib.hid h
  clear hs hN h
  generalize thV a = z0 at *
  generalize thT a = s0 at *

  go_enter Tryd.func108, Tryd.ntmps108
  go_wp2_with fail
  have V_w1'_1 : Below w.heap.size w (w.alloc (.cells #[.int .i64 a.P, .int .i64 a.party, .int .i64 a.input, .int .i64 a.mask, .int .i64 a.delta, .slice x.sa x.sn x.sc, .slice x.ka x.kn x.kc, .int .i64 a.step, .slice x.ha x.hn x.hc, .int .i64 a.status, .int .i64 a.out] 31)) := ((Below.refl w.heap.size w)).alloc (by have := ((Below.refl w.heap.size w)).size; first | exact this | (simp at *; omega)) _
  have B_a : Blk (w.alloc (.cells #[.int .i64 a.P, .int .i64 a.party, .int .i64 a.input, .int .i64 a.mask, .int .i64 a.delta, .slice x.sa x.sn x.sc, .slice x.ka x.kn x.kc, .int .i64 a.step, .slice x.ha x.hn x.hc, .int .i64 a.status, .int .i64 a.out] 31)) (w.heap.size) 31 #[.int .i64 a.P, .int .i64 a.party, .int .i64 a.input, .int .i64 a.mask, .int .i64 a.delta, .slice x.sa x.sn x.sc, .slice x.ka x.kn x.kc, .int .i64 a.step, .slice x.ha x.hn x.hc, .int .i64 a.status, .int .i64 a.out] := by exact Blk.new w 31 #[.int .i64 a.P, .int .i64 a.party, .int .i64 a.input, .int .i64 a.mask, .int .i64 a.delta, .slice x.sa x.sn x.sc, .slice x.ka x.kn x.kc, .int .i64 a.step, .slice x.ha x.hn x.hc, .int .i64 a.status, .int .i64 a.out]
  have S_w1' : w.heap.size + 1 ≤ (w.alloc (.cells #[.int .i64 a.P, .int .i64 a.party, .int .i64 a.input, .int .i64 a.mask, .int .i64 a.delta, .slice x.sa x.sn x.sc, .slice x.ka x.kn x.kc, .int .i64 a.step, .slice x.ha x.hn x.hc, .int .i64 a.status, .int .i64 a.out] 31)).heap.size := by first | (simp; done) | (simp; omega) | (simp [World.setCell]; done) | (simp [World.setCell]; omega)
  generalize (w.alloc (.cells #[.int .i64 a.P, .int .i64 a.party, .int .i64 a.input, .int .i64 a.mask, .int .i64 a.delta, .slice x.sa x.sn x.sc, .slice x.ka x.kn x.kc, .int .i64 a.step, .slice x.ha x.hn x.hc, .int .i64 a.status, .int .i64 a.out] 31)) = w1' at *
  have V_w1' : Below w.heap.size w w1' := V_w1'_1
  clear V_w1'_1
  refine (CF.out _ (LH.out.below V_w1')).mono ?_
  rintro e w2' ⟨rfl, u_w2'⟩
  replace B_a := B_a.below u_w2'
  have S_w2' := u_w2'.size
  have V_w2' : Below w.heap.size w w2' := V_w1'.trans (u_w2'.mono V_w1'.size)
  clear V_w1'
  clear u_w2'
  have V9 := V_w2'.alloc V_w2'.size (.cells #[.int .i64 z0, .int .i64 s0] 81)
  have LIT : Own ((w2'.alloc (.cells #[.int .i64 z0, .int .i64 s0] 81)).alloc (.cells #[.int .i64 z0, .int .i64 s0] 3)) w.heap.size (some ⟨w2'.heap.size + 1, 0, none⟩) 2 2 [z0, s0] := by simpa using Own.lit (w2'.alloc (.cells #[.int .i64 z0, .int .i64 s0] 81)) w.heap.size [z0, s0] V9.size (by simp [maxLen])
  go_wp2
  go_ret
  exact ⟨_, _, rfl, LIT, V9.alloc V9.size _⟩
theorem ptBody_any (a : Pl) (x : PlX) (w : World) (h : PlR w x a.shares a.keys a.heard) (hN : PlN a) (hs : a.step ≤ 2) :
    Calls Tryd.prog 108 #[.agg #[.int .i64 a.P, .int .i64 a.party, .int .i64 a.input, .int .i64 a.mask, .int .i64 a.delta, .slice x.sa x.sn x.sc, .slice x.ka x.kn x.kc, .int .i64 a.step, .slice x.ha x.hn x.hc, .int .i64 a.status, .int .i64 a.out]] w fun e w' => ∃ b c, e = .returned (.slice b (bodyL a).length c) ∧ Own w' w.heap.size b (bodyL a).length c (bodyL a) ∧ Below w.heap.size w w' := by
  have h0 := hN.stp
  have : a.step = 0 ∨ a.step = 1 ∨ a.step = 2 := by omega
  rcases this with e | e | e
  · have hb : bodyL a = [mkI a] := by unfold bodyL; rw [if_pos e]
    rw [hb]; exact ptBody_0 a x w hN e
  · have hb : bodyL a = [seV0 a, seT0 a, seV1 a, seT1 a] := by unfold bodyL; rw [if_neg (by omega), if_pos e]
    rw [hb]; exact ptBody_1 a x w h hN e
  · have hb : bodyL a = [thV a, thT a] := by unfold bodyL; rw [if_neg (by omega), if_neg (by omega)]
    rw [hb]; exact ptBody_2 a x w h hN e
set_option maxHeartbeats 8000000 in
set_option maxRecDepth 100000 in
theorem ptMessage_any (a : Pl) (x : PlX) (w : World) (h : PlR w x a.shares a.keys a.heard) (hN : PlN a) (hs : a.step ≤ 2) :
    Calls Tryd.prog 72 #[.agg #[.int .i64 a.P, .int .i64 a.party, .int .i64 a.input, .int .i64 a.mask, .int .i64 a.delta, .slice x.sa x.sn x.sc, .slice x.ka x.kn x.kc, .int .i64 a.step, .slice x.ha x.hn x.hc, .int .i64 a.status, .int .i64 a.out]] w fun e w' => ∃ b c, e = .returned (.agg #[.int .i64 a.party, .int .i64 a.step, .slice b (bodyL a).length c]) ∧ Own w' w.heap.size b (bodyL a).length c (bodyL a) ∧ Below w.heap.size w w' := by
  have CF := Lib.hid (fun (W : World) (h2 : PlR W x a.shares a.keys a.heard) => ptBody_any a x W h2 hN hs)
  have LH := Lib.hid h
  clear hs hN h
  generalize bodyL a = L at *
  obtain ⟨x_sa, x_sn, x_sc, x_ka, x_kn, x_kc, x_ha, x_hn, x_hc⟩ := x
  dsimp only at *

  go_enter Tryd.func72, Tryd.ntmps72
  go_upto_region 1 with fail
  have V_w1'_1 : Below w.heap.size w (w.alloc (.cells #[.int .i64 a.P, .int .i64 a.party, .int .i64 a.input, .int .i64 a.mask, .int .i64 a.delta, .slice x_sa x_sn x_sc, .slice x_ka x_kn x_kc, .int .i64 a.step, .slice x_ha x_hn x_hc, .int .i64 a.status, .int .i64 a.out] 31)) := ((Below.refl w.heap.size w)).alloc (by have := ((Below.refl w.heap.size w)).size; first | exact this | (simp at *; omega)) _
  have B_a : Blk (w.alloc (.cells #[.int .i64 a.P, .int .i64 a.party, .int .i64 a.input, .int .i64 a.mask, .int .i64 a.delta, .slice x_sa x_sn x_sc, .slice x_ka x_kn x_kc, .int .i64 a.step, .slice x_ha x_hn x_hc, .int .i64 a.status, .int .i64 a.out] 31)) (w.heap.size) 31 #[.int .i64 a.P, .int .i64 a.party, .int .i64 a.input, .int .i64 a.mask, .int .i64 a.delta, .slice x_sa x_sn x_sc, .slice x_ka x_kn x_kc, .int .i64 a.step, .slice x_ha x_hn x_hc, .int .i64 a.status, .int .i64 a.out] := by exact Blk.new w 31 #[.int .i64 a.P, .int .i64 a.party, .int .i64 a.input, .int .i64 a.mask, .int .i64 a.delta, .slice x_sa x_sn x_sc, .slice x_ka x_kn x_kc, .int .i64 a.step, .slice x_ha x_hn x_hc, .int .i64 a.status, .int .i64 a.out]
  have V_w1'_2 : Below w.heap.size w ((w.alloc (.cells #[.int .i64 a.P, .int .i64 a.party, .int .i64 a.input, .int .i64 a.mask, .int .i64 a.delta, .slice x_sa x_sn x_sc, .slice x_ka x_kn x_kc, .int .i64 a.step, .slice x_ha x_hn x_hc, .int .i64 a.status, .int .i64 a.out] 31)).alloc (.cells #[.int .i64 0, .int .i64 0, .slice none 0 0] 44)) := (V_w1'_1).alloc (by have := (V_w1'_1).size; first | exact this | (simp at *; omega)) _
  replace B_a := B_a.alloc (.cells #[.int .i64 0, .int .i64 0, .slice none 0 0] 44)
  have B_r : Blk ((w.alloc (.cells #[.int .i64 a.P, .int .i64 a.party, .int .i64 a.input, .int .i64 a.mask, .int .i64 a.delta, .slice x_sa x_sn x_sc, .slice x_ka x_kn x_kc, .int .i64 a.step, .slice x_ha x_hn x_hc, .int .i64 a.status, .int .i64 a.out] 31)).alloc (.cells #[.int .i64 0, .int .i64 0, .slice none 0 0] 44)) (w.heap.size + 1) 44 #[.int .i64 0, .int .i64 0, .slice none 0 0] := by simpa [World.setCell] using (Blk.new (w.alloc (.cells #[.int .i64 a.P, .int .i64 a.party, .int .i64 a.input, .int .i64 a.mask, .int .i64 a.delta, .slice x_sa x_sn x_sc, .slice x_ka x_kn x_kc, .int .i64 a.step, .slice x_ha x_hn x_hc, .int .i64 a.status, .int .i64 a.out] 31)) 44 #[.int .i64 0, .int .i64 0, .slice none 0 0])
  have S_w1' : w.heap.size + 2 ≤ ((w.alloc (.cells #[.int .i64 a.P, .int .i64 a.party, .int .i64 a.input, .int .i64 a.mask, .int .i64 a.delta, .slice x_sa x_sn x_sc, .slice x_ka x_kn x_kc, .int .i64 a.step, .slice x_ha x_hn x_hc, .int .i64 a.status, .int .i64 a.out] 31)).alloc (.cells #[.int .i64 0, .int .i64 0, .slice none 0 0] 44)).heap.size := by first | (simp; done) | (simp; omega) | (simp [World.setCell]; done) | (simp [World.setCell]; omega)
  generalize ((w.alloc (.cells #[.int .i64 a.P, .int .i64 a.party, .int .i64 a.input, .int .i64 a.mask, .int .i64 a.delta, .slice x_sa x_sn x_sc, .slice x_ka x_kn x_kc, .int .i64 a.step, .slice x_ha x_hn x_hc, .int .i64 a.status, .int .i64 a.out] 31)).alloc (.cells #[.int .i64 0, .int .i64 0, .slice none 0 0] 44)) = w1' at *
  clear V_w1'_1
  have V_w1' : Below w.heap.size w w1' := V_w1'_2
  clear V_w1'_2
  have hR := (LH.out.below V_w1').drew
  have hrw : w.heap.size ≠ w.heap.size + 1 := by omega
  have e_a_0 : w1'.cell? ⟨w.heap.size, 0, none⟩ = some (.int .i64 a.P) := B_a.cell 0
  have e_a_1 : w1'.cell? ⟨w.heap.size, 1, none⟩ = some (.int .i64 a.party) := B_a.cell 1
  have e_a_2 : w1'.cell? ⟨w.heap.size, 2, none⟩ = some (.int .i64 a.input) := B_a.cell 2
  have e_a_3 : w1'.cell? ⟨w.heap.size, 3, none⟩ = some (.int .i64 a.mask) := B_a.cell 3
  have e_a_4 : w1'.cell? ⟨w.heap.size, 4, none⟩ = some (.int .i64 a.delta) := B_a.cell 4
  have e_a_5 : w1'.cell? ⟨w.heap.size, 5, none⟩ = some (.slice x_sa x_sn x_sc) := B_a.cell 5
  have e_a_6 : w1'.cell? ⟨w.heap.size, 6, none⟩ = some (.slice x_ka x_kn x_kc) := B_a.cell 6
  have e_a_7 : w1'.cell? ⟨w.heap.size, 7, none⟩ = some (.int .i64 a.step) := B_a.cell 7
  have e_a_8 : w1'.cell? ⟨w.heap.size, 8, none⟩ = some (.slice x_ha x_hn x_hc) := B_a.cell 8
  have e_a_9 : w1'.cell? ⟨w.heap.size, 9, none⟩ = some (.int .i64 a.status) := B_a.cell 9
  have e_a_10 : w1'.cell? ⟨w.heap.size, 10, none⟩ = some (.int .i64 a.out) := B_a.cell 10
  go_wp2
  go_region_held3 (fun W => W.cell? ⟨w.heap.size, 0, none⟩ = some (.int .i64 a.P) ∧ W.cell? ⟨w.heap.size, 1, none⟩ = some (.int .i64 a.party) ∧ W.cell? ⟨w.heap.size, 2, none⟩ = some (.int .i64 a.input) ∧ W.cell? ⟨w.heap.size, 3, none⟩ = some (.int .i64 a.mask) ∧ W.cell? ⟨w.heap.size, 4, none⟩ = some (.int .i64 a.delta) ∧ W.cell? ⟨w.heap.size, 5, none⟩ = some (.slice x_sa x_sn x_sc) ∧ W.cell? ⟨w.heap.size, 6, none⟩ = some (.slice x_ka x_kn x_kc) ∧ W.cell? ⟨w.heap.size, 7, none⟩ = some (.int .i64 a.step) ∧ W.cell? ⟨w.heap.size, 8, none⟩ = some (.slice x_ha x_hn x_hc) ∧ W.cell? ⟨w.heap.size, 9, none⟩ = some (.int .i64 a.status) ∧ W.cell? ⟨w.heap.size, 10, none⟩ = some (.int .i64 a.out))
    (first | exact ⟨e_a_0, e_a_1, e_a_2, e_a_3, e_a_4, e_a_5, e_a_6, e_a_7, e_a_8, e_a_9, e_a_10⟩ | exact ⟨keepC u e_a_0, keepC u e_a_1, keepC u e_a_2, keepC u e_a_3, keepC u e_a_4, keepC u e_a_5, keepC u e_a_6, keepC u e_a_7, keepC u e_a_8, keepC u e_a_9, keepC u e_a_10⟩ | exact ⟨cellFar (cellFar (cellFar (keepC u e_a_0) hrw) hrw) hrw, cellFar (cellFar (cellFar (keepC u e_a_1) hrw) hrw) hrw, cellFar (cellFar (cellFar (keepC u e_a_2) hrw) hrw) hrw, cellFar (cellFar (cellFar (keepC u e_a_3) hrw) hrw) hrw, cellFar (cellFar (cellFar (keepC u e_a_4) hrw) hrw) hrw, cellFar (cellFar (cellFar (keepC u e_a_5) hrw) hrw) hrw, cellFar (cellFar (cellFar (keepC u e_a_6) hrw) hrw) hrw, cellFar (cellFar (cellFar (keepC u e_a_7) hrw) hrw) hrw, cellFar (cellFar (cellFar (keepC u e_a_8) hrw) hrw) hrw, cellFar (cellFar (cellFar (keepC u e_a_9) hrw) hrw) hrw, cellFar (cellFar (cellFar (keepC u e_a_10) hrw) hrw) hrw⟩ | go_keep)
    (first | (go_at_call 108; refine (CF.out _ hR).mono ?_; rintro e wz ⟨bz, cz, rfl, oz, u⟩; have BR : Blk wz (w.heap.size + 1) 44 #[.int .i64 0, .int .i64 0, .slice none 0 0] := B_r.drew.below u; have br0 := BR.cell 0; have fr0 := BR.frozen 0; have br1 := BR.cell 1; have fr1 := BR.frozen 1; have br2 := BR.cell 2; have fr2 := BR.frozen 2))
  have u9 : Below w1'.heap.size w1' wz := (Below.refl _ _).drew.trans u
  clear u BR hR br0 br1 br2 fr0 fr1 fr2
  clear e_a_0 e_a_1 e_a_2 e_a_3 e_a_4 e_a_5 e_a_6 e_a_7 e_a_8 e_a_9 e_a_10
  replace B_a := B_a.below u9
  replace B_r := B_r.below u9
  have S_wz := u9.size
  have V_wz : Below w.heap.size w wz := V_w1'.trans (u9.mono V_w1'.size)
  clear V_w1'
  clear u9
  replace oz := oz.lower (b' := w.heap.size + 2) (show w.heap.size + 2 ≤ w1'.drew.heap.size from S_w1')

  have Q_oz := Lib.hid oz.feet
  have G_1 : Only [w.heap.size + 1] wz (wz.setCell ⟨w.heap.size + 1, 0, none⟩ (.int .i64 a.party)) := (Only.refl _ _).setCell ⟨w.heap.size + 1, 0, none⟩ _ (by simp)
  have V_w2'_1 : Below w.heap.size w (wz.setCell ⟨w.heap.size + 1, 0, none⟩ (.int .i64 a.party)) := (V_wz).trans (G_1.below (V_wz).size (fun q hq => by have := (V_wz).size; simp at hq; omega))
  replace B_a := B_a.only G_1 (by first | (simp; done) | (simp; omega))
  replace B_r : Blk (wz.setCell ⟨w.heap.size + 1, 0, none⟩ (.int .i64 a.party)) (w.heap.size + 1) 44 #[.int .i64 a.party, .int .i64 0, .slice none 0 0] := B_r.set_ 0 (.int .i64 a.party)
  replace oz := oz.only G_1 (fun q hq hq' => by have := Q_oz.out q hq; simp at hq'; omega)
  clear G_1
  have G_2 : Only [w.heap.size + 1] (wz.setCell ⟨w.heap.size + 1, 0, none⟩ (.int .i64 a.party)) ((wz.setCell ⟨w.heap.size + 1, 0, none⟩ (.int .i64 a.party)).setCell ⟨w.heap.size + 1, 1, none⟩ (.int .i64 a.step)) := (Only.refl _ _).setCell ⟨w.heap.size + 1, 1, none⟩ _ (by simp)
  have V_w2'_2 : Below w.heap.size w ((wz.setCell ⟨w.heap.size + 1, 0, none⟩ (.int .i64 a.party)).setCell ⟨w.heap.size + 1, 1, none⟩ (.int .i64 a.step)) := (V_w2'_1).trans (G_2.below (V_w2'_1).size (fun q hq => by have := (V_w2'_1).size; simp at hq; omega))
  replace B_a := B_a.only G_2 (by first | (simp; done) | (simp; omega))
  replace B_r : Blk ((wz.setCell ⟨w.heap.size + 1, 0, none⟩ (.int .i64 a.party)).setCell ⟨w.heap.size + 1, 1, none⟩ (.int .i64 a.step)) (w.heap.size + 1) 44 #[.int .i64 a.party, .int .i64 a.step, .slice none 0 0] := B_r.set_ 1 (.int .i64 a.step)
  replace oz := oz.only G_2 (fun q hq hq' => by have := Q_oz.out q hq; simp at hq'; omega)
  clear G_2
  have G_3 : Only [w.heap.size + 1] ((wz.setCell ⟨w.heap.size + 1, 0, none⟩ (.int .i64 a.party)).setCell ⟨w.heap.size + 1, 1, none⟩ (.int .i64 a.step)) (((wz.setCell ⟨w.heap.size + 1, 0, none⟩ (.int .i64 a.party)).setCell ⟨w.heap.size + 1, 1, none⟩ (.int .i64 a.step)).setCell ⟨w.heap.size + 1, 2, none⟩ (.slice bz L.length cz)) := (Only.refl _ _).setCell ⟨w.heap.size + 1, 2, none⟩ _ (by simp)
  have V_w2'_3 : Below w.heap.size w (((wz.setCell ⟨w.heap.size + 1, 0, none⟩ (.int .i64 a.party)).setCell ⟨w.heap.size + 1, 1, none⟩ (.int .i64 a.step)).setCell ⟨w.heap.size + 1, 2, none⟩ (.slice bz L.length cz)) := (V_w2'_2).trans (G_3.below (V_w2'_2).size (fun q hq => by have := (V_w2'_2).size; simp at hq; omega))
  replace B_a := B_a.only G_3 (by first | (simp; done) | (simp; omega))
  replace B_r : Blk (((wz.setCell ⟨w.heap.size + 1, 0, none⟩ (.int .i64 a.party)).setCell ⟨w.heap.size + 1, 1, none⟩ (.int .i64 a.step)).setCell ⟨w.heap.size + 1, 2, none⟩ (.slice bz L.length cz)) (w.heap.size + 1) 44 #[.int .i64 a.party, .int .i64 a.step, .slice bz L.length cz] := B_r.set_ 2 (.slice bz L.length cz)
  replace oz := oz.only G_3 (fun q hq hq' => by have := Q_oz.out q hq; simp at hq'; omega)
  clear G_3
  have S_w2' : wz.heap.size + 0 ≤ (((wz.setCell ⟨w.heap.size + 1, 0, none⟩ (.int .i64 a.party)).setCell ⟨w.heap.size + 1, 1, none⟩ (.int .i64 a.step)).setCell ⟨w.heap.size + 1, 2, none⟩ (.slice bz L.length cz)).heap.size := by first | (simp; done) | (simp; omega) | (simp [World.setCell]; done) | (simp [World.setCell]; omega)
  generalize (((wz.setCell ⟨w.heap.size + 1, 0, none⟩ (.int .i64 a.party)).setCell ⟨w.heap.size + 1, 1, none⟩ (.int .i64 a.step)).setCell ⟨w.heap.size + 1, 2, none⟩ (.slice bz L.length cz)) = w2' at *
  clear V_w2'_1 V_w2'_2
  have V_w2' : Below w.heap.size w w2' := V_w2'_3
  clear V_wz
  clear V_w2'_3
  have e_r_0 : w2'.cell? ⟨w.heap.size + 1, 0, none⟩ = some (.int .i64 a.party) := B_r.cell 0
  have e_r_1 : w2'.cell? ⟨w.heap.size + 1, 1, none⟩ = some (.int .i64 a.step) := B_r.cell 1
  have e_r_2 : w2'.cell? ⟨w.heap.size + 1, 2, none⟩ = some (.slice bz L.length cz) := B_r.cell 2
  go_wp2
  exact bodyPost_ret (v := .agg #[.int .i64 a.party, .int .i64 a.step, .slice bz L.length cz]) (by simp [results, Tryd.results72, go_sem, e_r_0, e_r_1, e_r_2]) rfl ⟨_, _, rfl, oz.lower (by omega), V_w2'⟩
end Go.Proofs.YtlmdckcohoddnaaDoor
