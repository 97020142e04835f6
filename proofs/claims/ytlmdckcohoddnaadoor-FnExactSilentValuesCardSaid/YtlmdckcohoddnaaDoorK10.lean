/- Lemmas and walks that the claim's proof rests on, part 10. -/
import Derived.Test.YtlmdckcohoddnaaDoorK5
import Derived.Test.YtlmdckcohoddnaaDoorK8
import Derived.Test.YtlmdckcohoddnaaDoorK9
namespace Go.Proofs.YtlmdckcohoddnaaDoor
open Go.RowKit
set_option maxHeartbeats 8000000 in
set_option maxRecDepth 100000 in
theorem ptBody_0 (a : Pl) (x : PlX) (w : World) (hN : PlN a) (hs : a.step = 0) :
    Calls Tryd.prog 108 #[.agg #[.int .i64 a.P, .int .i64 a.party, .int .i64 a.input, .int .i64 a.mask, .int .i64 a.delta, .slice x.sa x.sn x.sc, .slice x.ka x.kn x.kc, .int .i64 a.step, .slice x.ha x.hn x.hc, .int .i64 a.status, .int .i64 a.out]] w fun e w' => ∃ b c, e = .returned (.slice b 1 c) ∧ Own w' w.heap.size b 1 c [mkI a] ∧ Below w.heap.size w w' := by
  have hp1 := hN.p1
  have hp2 := hN.p2
  have hip := hN.ip
  have hmk := hN.mks
  have k0 : ((a.step == 0) : Bool) = true := by simpa using hs
  have HM : Hid ((a.input - a.mask) % a.P = mkI a) := Lib.hid rfl
  have t1 : IntKind.i64.wrap (a.input - a.mask) = a.input - a.mask := IntWalk.i64_in _ (by omega)
  clear hs hN
  go_enter Tryd.func108, Tryd.ntmps108
  go_wp2_with fail
  refine Exists.elim (Blk.new_ w (b := w.heap.size) rfl 31 #[.int .i64 a.P, .int .i64 a.party, .int .i64 a.input, .int .i64 a.mask, .int .i64 a.delta, .slice x.sa x.sn x.sc, .slice x.ka x.kn x.kc, .int .i64 a.step, .slice x.ha x.hn x.hc, .int .i64 a.status, .int .i64 a.out]) (fun w1' q => ?_)
  rw [q.1]; have B_a := q.2.1; have s_w1' := q.2.2.1; have u_w1' := q.2.2.2; clear q
  have S_w1' : w.heap.size + 1 ≤ w1'.heap.size := Nat.le_of_eq s_w1'.symm
  have V_w1' := (Below.refl w.heap.size w).trans (u_w1'.mono ((Below.refl w.heap.size w)).size)
  clear u_w1' s_w1'
  refine (btMod_same _ _ _ (by omega) (by omega)).mono ?_; rintro e w' ⟨rfl, hw⟩; replace hw := hw.symm; subst hw
  rw [HM.out]
  go_wp2
  go_ret
  exact ⟨_, _, rfl, (Own.lit w1' _ [mkI a] (Nat.le_refl _) (by simp [maxLen])).lower V_w1'.size, V_w1'.alloc V_w1'.size _⟩
set_option maxHeartbeats 8000000 in
set_option maxRecDepth 100000 in
theorem ptBody_1 (a : Pl) (x : PlX) (w : World) (h : PlR w x a.shares a.keys a.heard) (hN : PlN a) (hs : a.step = 1) :
    Calls Tryd.prog 108 #[.agg #[.int .i64 a.P, .int .i64 a.party, .int .i64 a.input, .int .i64 a.mask, .int .i64 a.delta, .slice x.sa x.sn x.sc, .slice x.ka x.kn x.kc, .int .i64 a.step, .slice x.ha x.hn x.hc, .int .i64 a.status, .int .i64 a.out]] w fun e w' => ∃ b c, e = .returned (.slice b 4 c) ∧ Own w' w.heap.size b 4 c [seV0 a, seT0 a, seV1 a, seT1 a] ∧ Below w.heap.size w w' := by
  have k0 : ((a.step == 0) : Bool) = false := by simp; omega
  have k1 : ((a.step == 1) : Bool) = true := by simpa using hs
  have CF := Lib.hid (fun (W : World) (h2 : PlR W x a.shares a.keys a.heard) => ptSecond_any a x W h2 hN (by omega))
  have LH := Lib.hid h
  clear hs hN h
  generalize seV0 a = z0 at *
  generalize seT0 a = s0 at *
  generalize seV1 a = z1 at *
  generalize seT1 a = s1 at *
  go_enter Tryd.func108, Tryd.ntmps108
  go_wp2_with fail
  refine Exists.elim (Blk.new_ w (b := w.heap.size) rfl 31 #[.int .i64 a.P, .int .i64 a.party, .int .i64 a.input, .int .i64 a.mask, .int .i64 a.delta, .slice x.sa x.sn x.sc, .slice x.ka x.kn x.kc, .int .i64 a.step, .slice x.ha x.hn x.hc, .int .i64 a.status, .int .i64 a.out]) (fun w1' q => ?_)
  rw [q.1]; have B_a := q.2.1; have s_w1' := q.2.2.1; have u_w1' := q.2.2.2; clear q
  have S_w1' : w.heap.size + 1 ≤ w1'.heap.size := Nat.le_of_eq s_w1'.symm
  have V_w1' := (Below.refl w.heap.size w).trans (u_w1'.mono ((Below.refl w.heap.size w)).size)
  clear u_w1' s_w1'
  refine (CF.out _ (LH.out.below V_w1')).mono ?_
  rintro e w2' ⟨bf, cf, rfl, hf, u_w2'⟩
  replace B_a := B_a.below u_w2'
  have S_w2' := u_w2'.size
  have V_w2' : Below w.heap.size w w2' := V_w1'.trans (u_w2'.mono V_w1'.size)
  clear V_w1'
  clear u_w2'
  obtain ⟨gf, of, rfl, hfc⟩ := hf.at (by omega)
  have c0 : w2'.cell? ⟨gf, of, none⟩ = some (.int .i64 z0) := hfc 0 (by omega)
  have c1 : w2'.cell? ⟨gf, of + 1, none⟩ = some (.int .i64 s0) := hfc 1 (by omega)
  have c2 : w2'.cell? ⟨gf, of + 2, none⟩ = some (.int .i64 z1) := hfc 2 (by omega)
  have c3 : w2'.cell? ⟨gf, of + 3, none⟩ = some (.int .i64 s1) := hfc 3 (by omega)
  clear hfc hf
  go_wp2
  go_region
  go_wp2
  go_ret
  exact ⟨_, _, rfl, ((Own.lit w2' _ [z0, s0, z1, s1] (Nat.le_refl _) (by simp [maxLen])).drew).lower V_w2'.size, (V_w2'.alloc V_w2'.size _).drew⟩
set_option maxHeartbeats 8000000 in
set_option maxRecDepth 100000 in
theorem ptBody_2 (a : Pl) (x : PlX) (w : World) (h : PlR w x a.shares a.keys a.heard) (hN : PlN a) (hs : a.step = 2) :
    Calls Tryd.prog 108 #[.agg #[.int .i64 a.P, .int .i64 a.party, .int .i64 a.input, .int .i64 a.mask, .int .i64 a.delta, .slice x.sa x.sn x.sc, .slice x.ka x.kn x.kc, .int .i64 a.step, .slice x.ha x.hn x.hc, .int .i64 a.status, .int .i64 a.out]] w fun e w' => ∃ b c, e = .returned (.slice b 2 c) ∧ Own w' w.heap.size b 2 c [thV a, thT a] ∧ Below w.heap.size w w' := by
  have k0 : ((a.step == 0) : Bool) = false := by simp; omega
  have k1 : ((a.step == 1) : Bool) = false := by simp; omega
  have CF := Lib.hid (fun (W : World) (h2 : PlR W x a.shares a.keys a.heard) => ptThird_any a x W h2 hN (by omega))
  have LH := Lib.hid h
  clear hs hN h
  generalize thV a = z0 at *
  generalize thT a = s0 at *
  go_enter Tryd.func108, Tryd.ntmps108
  go_wp2_with fail
  refine Exists.elim (Blk.new_ w (b := w.heap.size) rfl 31 #[.int .i64 a.P, .int .i64 a.party, .int .i64 a.input, .int .i64 a.mask, .int .i64 a.delta, .slice x.sa x.sn x.sc, .slice x.ka x.kn x.kc, .int .i64 a.step, .slice x.ha x.hn x.hc, .int .i64 a.status, .int .i64 a.out]) (fun w1' q => ?_)
  rw [q.1]; have B_a := q.2.1; have s_w1' := q.2.2.1; have u_w1' := q.2.2.2; clear q
  have S_w1' : w.heap.size + 1 ≤ w1'.heap.size := Nat.le_of_eq s_w1'.symm
  have V_w1' := (Below.refl w.heap.size w).trans (u_w1'.mono ((Below.refl w.heap.size w)).size)
  clear u_w1' s_w1'
  refine (CF.out _ (LH.out.below V_w1')).mono ?_
  rintro e w2' ⟨rfl, u_w2'⟩
  replace B_a := B_a.below u_w2'
  have S_w2' := u_w2'.size
  have V_w2' : Below w.heap.size w w2' := V_w1'.trans (u_w2'.mono V_w1'.size)
  clear V_w1'
  clear u_w2'
  have V9 := V_w2'.alloc V_w2'.size (.cells #[.int .i64 z0, .int .i64 s0] 81)
  have LIT : Own ((w2'.alloc (.cells #[.int .i64 z0, .int .i64 s0] 81)).alloc (.cells #[.int .i64 z0, .int .i64 s0] 3)) w.heap.size (some ⟨w2'.heap.size + 1, 0, none⟩) 2 2 [z0, s0] := by simpa using Own.lit (w2'.alloc (.cells #[.int .i64 z0, .int .i64 s0] 81)) w.heap.size [z0, s0] V9.size (by simp [maxLen])
  go_wp2
  go_ret
  exact ⟨_, _, rfl, LIT, V9.alloc V9.size _⟩
theorem ptBody_any (a : Pl) (x : PlX) (w : World) (h : PlR w x a.shares a.keys a.heard) (hN : PlN a) (hs : a.step ≤ 2) :
    Calls Tryd.prog 108 #[.agg #[.int .i64 a.P, .int .i64 a.party, .int .i64 a.input, .int .i64 a.mask, .int .i64 a.delta, .slice x.sa x.sn x.sc, .slice x.ka x.kn x.kc, .int .i64 a.step, .slice x.ha x.hn x.hc, .int .i64 a.status, .int .i64 a.out]] w fun e w' => ∃ b c, e = .returned (.slice b (bodyL a).length c) ∧ Own w' w.heap.size b (bodyL a).length c (bodyL a) ∧ Below w.heap.size w w' := by
  have h0 := hN.stp
  have : a.step = 0 ∨ a.step = 1 ∨ a.step = 2 := by omega
  rcases this with e | e | e
  · have hb : bodyL a = [mkI a] := by unfold bodyL; rw [if_pos e]
    rw [hb]; exact ptBody_0 a x w hN e
  · have hb : bodyL a = [seV0 a, seT0 a, seV1 a, seT1 a] := by unfold bodyL; rw [if_neg (by omega), if_pos e]
    rw [hb]; exact ptBody_1 a x w h hN e
  · have hb : bodyL a = [thV a, thT a] := by unfold bodyL; rw [if_neg (by omega), if_neg (by omega)]
    rw [hb]; exact ptBody_2 a x w h hN e
set_option maxHeartbeats 8000000 in
set_option maxRecDepth 100000 in
theorem ptMessage_any (a : Pl) (x : PlX) (w : World) (h : PlR w x a.shares a.keys a.heard) (hN : PlN a) (hs : a.step ≤ 2) :
    Calls Tryd.prog 72 #[.agg #[.int .i64 a.P, .int .i64 a.party, .int .i64 a.input, .int .i64 a.mask, .int .i64 a.delta, .slice x.sa x.sn x.sc, .slice x.ka x.kn x.kc, .int .i64 a.step, .slice x.ha x.hn x.hc, .int .i64 a.status, .int .i64 a.out]] w fun e w' => ∃ b c, e = .returned (.agg #[.int .i64 a.party, .int .i64 a.step, .slice b (bodyL a).length c]) ∧ Own w' w.heap.size b (bodyL a).length c (bodyL a) ∧ Below w.heap.size w w' := by
  have CF := Lib.hid (fun (W : World) (h2 : PlR W x a.shares a.keys a.heard) => ptBody_any a x W h2 hN hs)
  have LH := Lib.hid h
  clear hs hN h
  generalize bodyL a = L at *
  obtain ⟨x_sa, x_sn, x_sc, x_ka, x_kn, x_kc, x_ha, x_hn, x_hc⟩ := x
  dsimp only at *
  go_enter Tryd.func72, Tryd.ntmps72
  go_upto_region 1 with fail
  refine Exists.elim (Blk.new_ w (b := w.heap.size) rfl 31 #[.int .i64 a.P, .int .i64 a.party, .int .i64 a.input, .int .i64 a.mask, .int .i64 a.delta, .slice x_sa x_sn x_sc, .slice x_ka x_kn x_kc, .int .i64 a.step, .slice x_ha x_hn x_hc, .int .i64 a.status, .int .i64 a.out]) (fun w1_a0' q => ?_)
  rw [q.1]; have B_a := q.2.1; have s_w1_a0' := q.2.2.1; have u_w1_a0' := q.2.2.2; clear q
  refine Exists.elim (Blk.new_ w1_a0' (b := w.heap.size + 1) s_w1_a0' 44 #[.int .i64 0, .int .i64 0, .slice none 0 0]) (fun w1' q => ?_)
  rw [q.1]; have B_r := q.2.1; have s_w1' := q.2.2.1; have u_w1' := q.2.2.2; clear q
  replace B_a := (B_a.below u_w1')
  have U := (u_w1_a0'.trans (u_w1'.mono u_w1_a0'.size))
  have S_w1' : w.heap.size + 2 ≤ w1'.heap.size := Nat.le_of_eq s_w1'.symm
  have V_w1' := (Below.refl w.heap.size w).trans (U.mono ((Below.refl w.heap.size w)).size)
  clear u_w1_a0' u_w1' s_w1_a0' s_w1' U
  have hR := (LH.out.below V_w1').drew
  have hrw : w.heap.size ≠ w.heap.size + 1 := by omega
  have e_a_0 := B_a.a11_0
  have e_a_1 := B_a.a11_1
  have e_a_2 := B_a.a11_2
  have e_a_3 := B_a.a11_3
  have e_a_4 := B_a.a11_4
  have e_a_5 := B_a.a11_5
  have e_a_6 := B_a.a11_6
  have e_a_7 := B_a.a11_7
  have e_a_8 := B_a.a11_8
  have e_a_9 := B_a.a11_9
  have e_a_10 := B_a.a11_10
  go_wp2
  go_region_held3 (fun W => W.cell? ⟨w.heap.size, 0, none⟩ = some (.int .i64 a.P) ∧ W.cell? ⟨w.heap.size, 1, none⟩ = some (.int .i64 a.party) ∧ W.cell? ⟨w.heap.size, 2, none⟩ = some (.int .i64 a.input) ∧ W.cell? ⟨w.heap.size, 3, none⟩ = some (.int .i64 a.mask) ∧ W.cell? ⟨w.heap.size, 4, none⟩ = some (.int .i64 a.delta) ∧ W.cell? ⟨w.heap.size, 5, none⟩ = some (.slice x_sa x_sn x_sc) ∧ W.cell? ⟨w.heap.size, 6, none⟩ = some (.slice x_ka x_kn x_kc) ∧ W.cell? ⟨w.heap.size, 7, none⟩ = some (.int .i64 a.step) ∧ W.cell? ⟨w.heap.size, 8, none⟩ = some (.slice x_ha x_hn x_hc) ∧ W.cell? ⟨w.heap.size, 9, none⟩ = some (.int .i64 a.status) ∧ W.cell? ⟨w.heap.size, 10, none⟩ = some (.int .i64 a.out))
    (first | exact ⟨e_a⟩ | exact ⟨keepC u e_a_0, keepC u e_a_1, keepC u e_a_2, keepC u e_a_3, keepC u e_a_4, keepC u e_a_5, keepC u e_a_6, keepC u e_a_7, keepC u e_a_8, keepC u e_a_9, keepC u e_a_10⟩ | exact ⟨cellFar (cellFar (cellFar (keepC u e_a_0) hrw) hrw) hrw, cellFar (cellFar (cellFar (keepC u e_a_1) hrw) hrw) hrw, cellFar (cellFar (cellFar (keepC u e_a_2) hrw) hrw) hrw, cellFar (cellFar (cellFar (keepC u e_a_3) hrw) hrw) hrw, cellFar (cellFar (cellFar (keepC u e_a_4) hrw) hrw) hrw, cellFar (cellFar (cellFar (keepC u e_a_5) hrw) hrw) hrw, cellFar (cellFar (cellFar (keepC u e_a_6) hrw) hrw) hrw, cellFar (cellFar (cellFar (keepC u e_a_7) hrw) hrw) hrw, cellFar (cellFar (cellFar (keepC u e_a_8) hrw) hrw) hrw, cellFar (cellFar (cellFar (keepC u e_a_9) hrw) hrw) hrw, cellFar (cellFar (cellFar (keepC u e_a_10) hrw) hrw) hrw⟩ | go_keep)
    (first | (go_at_call 108; refine (CF.out _ hR).mono ?_; rintro e wz ⟨bz, cz, rfl, oz, u⟩; have BR : Blk wz (w.heap.size + 1) 44 #[.int .i64 0, .int .i64 0, .slice none 0 0] := B_r.drew.below u; have br0 := BR.cell 0; have fr0 := BR.frozen 0; have br1 := BR.cell 1; have fr1 := BR.frozen 1; have br2 := BR.cell 2; have fr2 := BR.frozen 2))
  have u9 : Below w1'.heap.size w1' wz := (Below.refl _ _).drew.trans u
  clear u BR hR br0 br1 br2 fr0 fr1 fr2
  clear e_a_0 e_a_1 e_a_2 e_a_3 e_a_4 e_a_5 e_a_6 e_a_7 e_a_8 e_a_9 e_a_10
  replace B_a := B_a.below u9
  replace B_r := B_r.below u9
  have S_wz := u9.size
  have V_wz : Below w.heap.size w wz := V_w1'.trans (u9.mono V_w1'.size)
  clear V_w1'
  clear u9
  replace oz := oz.lower (b' := w.heap.size + 2) (show w.heap.size + 2 ≤ w1'.drew.heap.size from S_w1')
  have Q_oz := Lib.hid oz.feet
  refine Exists.elim (B_r.row3 (.int .i64 a.party) (.int .i64 a.step) (.slice bz L.length cz)) (fun w2' q => ?_)
  rw [q.1]; replace B_r := q.2.1; have G := q.2.2; clear q
  have V_w2' := (V_wz).trans (G.below (V_wz).size (fun q hq => by have := (V_wz).size; simp at hq; omega))
  replace B_a := B_a.only G (by first | (simp; done) | (simp; omega))
  replace oz := oz.only G (fun q hq hq' => by have := Q_oz.out q hq; simp at hq'; omega)
  have sG0 := G.size
  clear G
  clear V_wz
  have S_w2' : wz.heap.size + 0 ≤ w2'.heap.size := by omega
  clear sG0
  have e_r := B_r.all3
  go_wp2
  exact bodyPost_ret (v := .agg #[.int .i64 a.party, .int .i64 a.step, .slice bz L.length cz]) (by simp [results, Tryd.results72, go_sem, e_r]) rfl ⟨_, _, rfl, oz.lower (by omega), V_w2'⟩
end Go.Proofs.YtlmdckcohoddnaaDoor
namespace Go.Proofs.YtlmdckcohoddnaaDoor
open Go.RowKit
set_option maxHeartbeats 8000000 in
set_option maxRecDepth 100000 in
theorem ptMoved_any (a : Pl) (x : PlX) (key k : Int) (w : World) (hN : PlN a) (hy : -4000000 ≤ key ∧ key ≤ 4000000) (hk : 0 ≤ k ∧ k ≤ 1000) :
    Calls Tryd.prog 139 #[.agg #[.int .i64 a.P, .int .i64 a.party, .int .i64 a.input, .int .i64 a.mask, .int .i64 a.delta, .slice x.sa x.sn x.sc, .slice x.ka x.kn x.kc, .int .i64 a.step, .slice x.ha x.hn x.hc, .int .i64 a.status, .int .i64 a.out], .int .i64 key, .int .i64 k] w fun e w' => e = .returned (.int .i64 (mvd a key k)) ∧ Below w.heap.size w w' := by
  have hp1 := hN.p1
  have hp2 := hN.p2
  have hd := hN.de
  have m1 : 0 ≤ k * a.delta := Int.mul_nonneg hk.1 hd.1
  have m2 : k * a.delta ≤ 1000 * 1000 := Int.mul_le_mul hk.2 (by omega) hd.1 (by omega)
  have t1 : IntKind.i64.wrap (k * a.delta) = k * a.delta := IntWalk.i64_in _ (by omega)
  have t2 : IntKind.i64.wrap (key - k * a.delta) = key - k * a.delta := IntWalk.i64_in _ (by omega)
  clear hN
  unfold mvd
  by_cases k0 : a.party = 1
  · rw [if_pos k0]
    have k1 : ((a.party == 1) : Bool) = true := by simpa using k0
    clear k0
    go_enter Tryd.func139, Tryd.ntmps139
    go_wp2_with fail
    refine Exists.elim (Blk.new_ w (b := w.heap.size) rfl 31 #[.int .i64 a.P, .int .i64 a.party, .int .i64 a.input, .int .i64 a.mask, .int .i64 a.delta, .slice x.sa x.sn x.sc, .slice x.ka x.kn x.kc, .int .i64 a.step, .slice x.ha x.hn x.hc, .int .i64 a.status, .int .i64 a.out]) (fun w1' q => ?_)
    rw [q.1]; have B_a := q.2.1; have s_w1' := q.2.2.1; have u_w1' := q.2.2.2; clear q
    have S_w1' : w.heap.size + 1 ≤ w1'.heap.size := Nat.le_of_eq s_w1'.symm
    have V_w1' := (Below.refl w.heap.size w).trans (u_w1'.mono ((Below.refl w.heap.size w)).size)
    clear u_w1' s_w1'
    refine (btMod_same _ _ _ (by omega) (by omega)).mono ?_; rintro e w' ⟨rfl, hw⟩; replace hw := hw.symm; subst hw
    go_wp2
    go_ret
    exact ⟨rfl, V_w1'⟩
  · rw [if_neg k0]
    have k1 : ((a.party == 1) : Bool) = false := by simpa using k0
    clear k0
    go_enter Tryd.func139, Tryd.ntmps139
    go_wp2_with fail
    refine Exists.elim (Blk.new_ w (b := w.heap.size) rfl 31 #[.int .i64 a.P, .int .i64 a.party, .int .i64 a.input, .int .i64 a.mask, .int .i64 a.delta, .slice x.sa x.sn x.sc, .slice x.ka x.kn x.kc, .int .i64 a.step, .slice x.ha x.hn x.hc, .int .i64 a.status, .int .i64 a.out]) (fun w2' q => ?_)
    rw [q.1]; have B_a := q.2.1; have s_w2' := q.2.2.1; have u_w2' := q.2.2.2; clear q
    have S_w2' : w.heap.size + 1 ≤ w2'.heap.size := Nat.le_of_eq s_w2'.symm
    have V_w2' := (Below.refl w.heap.size w).trans (u_w2'.mono ((Below.refl w.heap.size w)).size)
    clear u_w2' s_w2'
    refine (btMod_same _ _ _ (by omega) (by omega)).mono ?_; rintro e w' ⟨rfl, hw⟩; replace hw := hw.symm; subst hw
    go_wp2
    go_ret
    exact ⟨rfl, V_w2'⟩
set_option maxHeartbeats 8000000 in
set_option maxRecDepth 100000 in
theorem ptHolds_0 (a : Pl) (x : PlX) (b : Option Addr) (n c : Nat) (body : List Int) (w : World) (hs : a.step = 0) :
    Calls Tryd.prog 121 #[.agg #[.int .i64 a.P, .int .i64 a.party, .int .i64 a.input, .int .i64 a.mask, .int .i64 a.delta, .slice x.sa x.sn x.sc, .slice x.ka x.kn x.kc, .int .i64 a.step, .slice x.ha x.hn x.hc, .int .i64 a.status, .int .i64 a.out], .slice b n c] w fun e w' => e = .returned (.bool (accT a body)) ∧ Below w.heap.size w w' := by
  have k0 : ((a.step == 0) : Bool) = true := by simpa using hs
  have HT : accT a body = true := by unfold accT; rw [if_pos hs]
  rw [HT]
  clear HT hs
  go_enter Tryd.func121, Tryd.ntmps121
  go_wp2
  go_ret
  exact ⟨rfl, (Below.refl _ _).alloc (Nat.le_refl _) _⟩
set_option maxHeartbeats 16000000 in
set_option maxRecDepth 100000 in
theorem ptHolds_1 (a : Pl) (x : PlX) (b : Option Addr) (c : Nat) (body : List Int) (w : World) (h : PlR w x a.shares a.keys a.heard) (hM : Ints w b 4 c body) (hN : PlN a) (hs : a.step = 1) (hr : ∀ v ∈ body, 0 ≤ v ∧ v ≤ a.P - 1) :
    Calls Tryd.prog 121 #[.agg #[.int .i64 a.P, .int .i64 a.party, .int .i64 a.input, .int .i64 a.mask, .int .i64 a.delta, .slice x.sa x.sn x.sc, .slice x.ka x.kn x.kc, .int .i64 a.step, .slice x.ha x.hn x.hc, .int .i64 a.status, .int .i64 a.out], .slice b 4 c] w fun e w' => e = .returned (.bool (accT a body)) ∧ Below w.heap.size w w' := by
  have hp1 := hN.p1
  have hp2 := hN.p2
  have hde := hN.de
  have hl := hM.len
  have q0 := f0_rng hN (by omega)
  have q1 := f1_rng hN (by omega)
  have k0 : ((a.step == 0) : Bool) = false := by simp; omega
  have k1 : ((a.step == 1) : Bool) = true := by simpa using hs
  have LH := Lib.hid h
  have CF := Lib.hid (fun (W : World) (h2 : PlR W x a.shares a.keys a.heard) => ptFirst_any a x W h2 hN (by omega))
  have HA : accT a body = (holdB a.P a.delta (keyT a 1 0 (-1) 0 0 (f0 a)) (body.getD 0 0) (body.getD 1 0) && holdB a.P a.delta (keyT a 0 1 0 (-1) 0 (f1 a)) (body.getD 2 0) (body.getD 3 0)) := by unfold accT; rw [if_neg (by omega), if_pos hs]
  generalize accT a body = RR at *
  have r0 := hr _ (getD_mem body 0 (by omega))
  have r1 := hr _ (getD_mem body 1 (by omega))
  have r2 := hr _ (getD_mem body 2 (by omega))
  have r3 := hr _ (getD_mem body 3 (by omega))
  have ky0 := hN.ky 0 (by omega)
  have ky2 := hN.ky 2 (by omega)
  have mr0 := mvd_rng hN (kyI a 0) (f0 a)
  have kr0 : 0 ≤ keyT a 1 0 (-1) 0 0 (f0 a) ∧ keyT a 1 0 (-1) 0 0 (f0 a) ≤ a.P - 1 := cmb_rng _ _ _ _ _ _ _ _ (by omega)
  have CM0 := Lib.hid (fun (W : World) => ptMoved_any a x (kyI a 0) (f0 a) W hN (by omega) (by omega))
  have CB0 := Lib.hid (fun (W : World) => (show Calls Tryd.prog 117 #[.int .i64 (mvd a (kyI a 0) (f0 a) - kyI a 2), .int .i64 a.P] W fun e w' => e = .returned (.int .i64 (keyT a 1 0 (-1) 0 0 (f0 a))) ∧ w' = W by rw [← key0_eq hN (by omega)]; exact btMod_same _ _ W (by omega) (by omega)))
  have CG0 := Lib.hid (fun (W : World) => tgHolds_any a.P a.delta (keyT a 1 0 (-1) 0 0 (f0 a)) (body.getD 0 0) (body.getD 1 0) W (by omega) (by omega) (by omega) kr0 r0 r1)
  have tw0 : IntKind.i64.wrap (mvd a (kyI a 0) (f0 a) - kyI a 2) = mvd a (kyI a 0) (f0 a) - kyI a 2 := IntWalk.i64_in _ (by omega)
  clear kr0 ky0 ky2 mr0
  have ky1 := hN.ky 1 (by omega)
  have ky3 := hN.ky 3 (by omega)
  have mr1 := mvd_rng hN (kyI a 1) (f1 a)
  have kr1 : 0 ≤ keyT a 0 1 0 (-1) 0 (f1 a) ∧ keyT a 0 1 0 (-1) 0 (f1 a) ≤ a.P - 1 := cmb_rng _ _ _ _ _ _ _ _ (by omega)
  have CM1 := Lib.hid (fun (W : World) => ptMoved_any a x (kyI a 1) (f1 a) W hN (by omega) (by omega))
  have CB1 := Lib.hid (fun (W : World) => (show Calls Tryd.prog 117 #[.int .i64 (mvd a (kyI a 1) (f1 a) - kyI a 3), .int .i64 a.P] W fun e w' => e = .returned (.int .i64 (keyT a 0 1 0 (-1) 0 (f1 a))) ∧ w' = W by rw [← key1_eq hN (by omega)]; exact btMod_same _ _ W (by omega) (by omega)))
  have CG1 := Lib.hid (fun (W : World) => tgHolds_any a.P a.delta (keyT a 0 1 0 (-1) 0 (f1 a)) (body.getD 2 0) (body.getD 3 0) W (by omega) (by omega) (by omega) kr1 r2 r3)
  have tw1 : IntKind.i64.wrap (mvd a (kyI a 1) (f1 a) - kyI a 3) = mvd a (kyI a 1) (f1 a) - kyI a 3 := IntWalk.i64_in _ (by omega)
  clear kr1 ky1 ky3 mr1
  have sw0 : IntKind.i64.wrap 0 = 0 := IntWalk.i64_in _ (by omega)
  have sw1 : IntKind.i64.wrap 1 = 1 := IntWalk.i64_in _ (by omega)
  have sw2 : IntKind.i64.wrap 2 = 2 := IntWalk.i64_in _ (by omega)
  have sw3 : IntKind.i64.wrap 3 = 3 := IntWalk.i64_in _ (by omega)
  obtain ⟨gb, ob, rfl, hbc⟩ := hM.cells (by omega)
  obtain ⟨_, hK, _⟩ := h
  have hk5 : x.kn = 5 := by have := hK.len; have := hN.kl; omega
  obtain ⟨gk, ok, hka, hkc⟩ := hK.cells (by omega)
  rw [hk5] at hkc
  have y0 : w.cell? ⟨gb, ob, none⟩ = some (.int .i64 (body.getD 0 0)) := hbc 0 (by omega)
  have y1 : w.cell? ⟨gb, ob + 1, none⟩ = some (.int .i64 (body.getD 1 0)) := hbc 1 (by omega)
  have y2 : w.cell? ⟨gb, ob + 2, none⟩ = some (.int .i64 (body.getD 2 0)) := hbc 2 (by omega)
  have y3 : w.cell? ⟨gb, ob + 3, none⟩ = some (.int .i64 (body.getD 3 0)) := hbc 3 (by omega)
  have c0 : w.cell? ⟨gk, ok, none⟩ = some (.int .i64 (kyI a 0)) := hkc 0 (by omega)
  have c1 : w.cell? ⟨gk, ok + 1, none⟩ = some (.int .i64 (kyI a 1)) := hkc 1 (by omega)
  have c2 : w.cell? ⟨gk, ok + 2, none⟩ = some (.int .i64 (kyI a 2)) := hkc 2 (by omega)
  have c3 : w.cell? ⟨gk, ok + 3, none⟩ = some (.int .i64 (kyI a 3)) := hkc 3 (by omega)
  clear hbc hkc hK hM hN hs hr hl q0 q1 r0 r1 r2 r3
  obtain ⟨x_sa, x_sn, x_sc, x_ka, x_kn, x_kc, x_ha, x_hn, x_hc⟩ := x
  dsimp only at *
  subst hka
  subst hk5
  generalize body.getD 0 0 = v0 at *
  generalize body.getD 1 0 = v1 at *
  generalize body.getD 2 0 = v2 at *
  generalize body.getD 3 0 = v3 at *
  generalize keyT a 1 0 (-1) 0 0 (f0 a) = kk0 at *
  generalize mvd a (kyI a 0) (f0 a) = mm0 at *
  generalize keyT a 0 1 0 (-1) 0 (f1 a) = kk1 at *
  generalize mvd a (kyI a 1) (f1 a) = mm1 at *
  generalize holdB a.P a.delta kk0 v0 v1 = hb0 at *
  generalize holdB a.P a.delta kk1 v2 v3 = hb1 at *
  generalize f0 a = F0 at *
  generalize f1 a = F1 at *
  replace HA := Lib.hid HA
  generalize kyI a 0 = ka0 at *
  generalize kyI a 1 = ka1 at *
  generalize kyI a 2 = ka2 at *
  generalize kyI a 3 = ka3 at *
  go_enter Tryd.func121, Tryd.ntmps121
  go_wp2_with fail
  refine Exists.elim (Blk.new_ w (b := w.heap.size) rfl 31 #[.int .i64 a.P, .int .i64 a.party, .int .i64 a.input, .int .i64 a.mask, .int .i64 a.delta, .slice x_sa x_sn x_sc, .slice (some ⟨gk, ok, none⟩) 5 x_kc, .int .i64 a.step, .slice x_ha x_hn x_hc, .int .i64 a.status, .int .i64 a.out]) (fun w1' q => ?_)
  rw [q.1]; have B_a := q.2.1; have s_w1' := q.2.2.1; have u_w1' := q.2.2.2; clear q
  have S_w1' : w.heap.size + 1 ≤ w1'.heap.size := Nat.le_of_eq s_w1'.symm
  have V_w1' := (Below.refl w.heap.size w).trans (u_w1'.mono ((Below.refl w.heap.size w)).size)
  clear u_w1' s_w1'
  refine (CF.out _ (LH.out.below V_w1')).mono ?_
  rintro e w2' ⟨bf, cf, rfl, hf, u_w2'⟩
  replace B_a := B_a.below u_w2'
  have S_w2' := u_w2'.size
  have V_w2' : Below w.heap.size w w2' := V_w1'.trans (u_w2'.mono V_w1'.size)
  clear V_w1'
  clear u_w2'
  obtain ⟨gf, of, rfl, hfc⟩ := hf.cells (by omega)
  have z0 : w2'.cell? ⟨gf, of, none⟩ = some (.int .i64 F0) := hfc 0 (by omega)
  have z1 : w2'.cell? ⟨gf, of + 1, none⟩ = some (.int .i64 F1) := hfc 1 (by omega)
  clear hfc hf
  have VB := V_w2'
  go_wp2
  go_loopw [6] (fun v wr => ∃ k : Nat, k ≤ 2 ∧ v = .int .i64 k ∧ Below w2'.heap.size w2' wr ∧ (0 < k → hb0 = true) ∧ (1 < k → hb1 = true)) (fun v _ => 2 - (intOf v).toNat)
  case atStart => exact ⟨0, by omega, rfl, Below.refl _ _, fun h => absurd h (by omega), fun h => absurd h (by omega)⟩
  case round =>
    obtain ⟨k, hk, rfl, hbel, g0, g1⟩ := hrel
    have G0 := Lib.hid g0
    have G1 := Lib.hid g1
    clear g0 g1
    have B_a := B_a.below hbel
    have V_wr := V_w2'.trans (hbel.mono V_w2'.size)
    have S_wr := hbel.size
    by_cases hlt : k < 2
    · have hcase : k = 0 ∨ k = 1 := by omega
      rcases hcase with rfl | rfl
      · skip
        rw [show ((0 : Nat) : Int) = 0 from rfl]
        have p0 := keepC V_wr c0
        have p1 := keepC V_wr c2
        have p2 := keepC hbel z0
        have p3 := keepC V_wr y0
        have p4 := keepC V_wr y1
        have e_a_0 := B_a.a11_0
        have e_a_1 := B_a.a11_1
        have e_a_2 := B_a.a11_2
        have e_a_3 := B_a.a11_3
        have e_a_4 := B_a.a11_4
        have e_a_5 := B_a.a11_5
        have e_a_6 := B_a.a11_6
        have e_a_7 := B_a.a11_7
        have e_a_8 := B_a.a11_8
        have e_a_9 := B_a.a11_9
        have e_a_10 := B_a.a11_10
        go_wp2
        go_region_held3 (fun W => W.cell? ⟨w.heap.size, 0, none⟩ = some (.int .i64 a.P) ∧ W.cell? ⟨w.heap.size, 1, none⟩ = some (.int .i64 a.party) ∧ W.cell? ⟨w.heap.size, 2, none⟩ = some (.int .i64 a.input) ∧ W.cell? ⟨w.heap.size, 3, none⟩ = some (.int .i64 a.mask) ∧ W.cell? ⟨w.heap.size, 4, none⟩ = some (.int .i64 a.delta) ∧ W.cell? ⟨w.heap.size, 5, none⟩ = some (.slice x_sa x_sn x_sc) ∧ W.cell? ⟨w.heap.size, 6, none⟩ = some (.slice (some ⟨gk, ok, none⟩) 5 x_kc) ∧ W.cell? ⟨w.heap.size, 7, none⟩ = some (.int .i64 a.step) ∧ W.cell? ⟨w.heap.size, 8, none⟩ = some (.slice x_ha x_hn x_hc) ∧ W.cell? ⟨w.heap.size, 9, none⟩ = some (.int .i64 a.status) ∧ W.cell? ⟨w.heap.size, 10, none⟩ = some (.int .i64 a.out) ∧ W.cell? ⟨gk, ok, none⟩ = some (.int .i64 ka0) ∧ W.cell? ⟨gk, ok + 2, none⟩ = some (.int .i64 ka2) ∧ W.cell? ⟨gf, of, none⟩ = some (.int .i64 F0))
          (first | exact ⟨e_a, p0, p1, p2⟩ | exact ⟨keepC u e_a_0, keepC u e_a_1, keepC u e_a_2, keepC u e_a_3, keepC u e_a_4, keepC u e_a_5, keepC u e_a_6, keepC u e_a_7, keepC u e_a_8, keepC u e_a_9, keepC u e_a_10, keepC u p0, keepC u p1, keepC u p2⟩ | go_keep)
          (first | (go_at_call 139; refine (CM0.out _).mono ?_; rintro e wz ⟨rfl, u⟩))
        have u9 : Below wr.heap.size wr wz := (Below.refl _ _).drew.trans u
        have hb9 := hbel.trans (u9.mono hbel.size)
        replace p3 := keepC u9 p3
        replace p4 := keepC u9 p4
        clear u p0 p1 p2
        clear e_a_0 e_a_1 e_a_2 e_a_3 e_a_4 e_a_5 e_a_6 e_a_7 e_a_8 e_a_9 e_a_10
        replace B_a := B_a.below u9
        have S_wz := u9.size
        have V_wz : Below w.heap.size w wz := V_wr.trans (u9.mono V_wr.size)
        clear V_wr
        clear u9
        have e_a_0 := B_a.a11_0
        have e_a_4 := B_a.a11_4
        go_wp2
        go_region_held3 (fun W => W.cell? ⟨w.heap.size, 0, none⟩ = some (.int .i64 a.P) ∧ W.cell? ⟨w.heap.size, 4, none⟩ = some (.int .i64 a.delta) ∧ W.cell? ⟨gb, ob, none⟩ = some (.int .i64 v0) ∧ W.cell? ⟨gb, ob + 1, none⟩ = some (.int .i64 v1))
          (first | exact ⟨e_a_0, e_a_4, p3, p4⟩ | exact ⟨keepC u e_a_0, keepC u e_a_4, keepC u p3, keepC u p4⟩ | go_keep)
          (first | (go_at_call 117; refine (CB0.out _).mono ?_; rintro e w' ⟨rfl, hw⟩; replace hw := hw.symm; subst hw) | (go_at_call 140; refine (CG0.out _).mono ?_; rintro e wq ⟨rfl, u⟩))
        have u9 : Below wz.heap.size wz wq := (Below.refl _ _).drew.trans u
        have hbX := hb9.trans (u9.mono hb9.size)
        clear u p3 p4 hb9
        clear e_a_0 e_a_4
        replace B_a := B_a.below u9
        have S_wq := u9.size
        have V_wq : Below w.heap.size w wq := V_wz.trans (u9.mono V_wz.size)
        clear V_wz
        clear u9
        cases hb0
        · go_wp2
          go_ret
          exact ⟨ret_bool (by rw [HA.out]; simp), V_wq⟩
        · go_wp2
          go_roundw
          case rel => exact ⟨0 + 1, by omega, by go_num, hbX, fun _ => (by first | rfl | trivial), fun h => absurd h (by omega)⟩
          case measure => simp [intOf]
      · skip
        rw [show ((1 : Nat) : Int) = 1 from rfl]
        have p0 := keepC V_wr c1
        have p1 := keepC V_wr c3
        have p2 := keepC hbel z1
        have p3 := keepC V_wr y2
        have p4 := keepC V_wr y3
        have e_a_0 := B_a.a11_0
        have e_a_1 := B_a.a11_1
        have e_a_2 := B_a.a11_2
        have e_a_3 := B_a.a11_3
        have e_a_4 := B_a.a11_4
        have e_a_5 := B_a.a11_5
        have e_a_6 := B_a.a11_6
        have e_a_7 := B_a.a11_7
        have e_a_8 := B_a.a11_8
        have e_a_9 := B_a.a11_9
        have e_a_10 := B_a.a11_10
        go_wp2
        go_region_held3 (fun W => W.cell? ⟨w.heap.size, 0, none⟩ = some (.int .i64 a.P) ∧ W.cell? ⟨w.heap.size, 1, none⟩ = some (.int .i64 a.party) ∧ W.cell? ⟨w.heap.size, 2, none⟩ = some (.int .i64 a.input) ∧ W.cell? ⟨w.heap.size, 3, none⟩ = some (.int .i64 a.mask) ∧ W.cell? ⟨w.heap.size, 4, none⟩ = some (.int .i64 a.delta) ∧ W.cell? ⟨w.heap.size, 5, none⟩ = some (.slice x_sa x_sn x_sc) ∧ W.cell? ⟨w.heap.size, 6, none⟩ = some (.slice (some ⟨gk, ok, none⟩) 5 x_kc) ∧ W.cell? ⟨w.heap.size, 7, none⟩ = some (.int .i64 a.step) ∧ W.cell? ⟨w.heap.size, 8, none⟩ = some (.slice x_ha x_hn x_hc) ∧ W.cell? ⟨w.heap.size, 9, none⟩ = some (.int .i64 a.status) ∧ W.cell? ⟨w.heap.size, 10, none⟩ = some (.int .i64 a.out) ∧ W.cell? ⟨gk, ok + 1, none⟩ = some (.int .i64 ka1) ∧ W.cell? ⟨gk, ok + 3, none⟩ = some (.int .i64 ka3) ∧ W.cell? ⟨gf, of + 1, none⟩ = some (.int .i64 F1))
          (first | exact ⟨e_a, p0, p1, p2⟩ | exact ⟨keepC u e_a_0, keepC u e_a_1, keepC u e_a_2, keepC u e_a_3, keepC u e_a_4, keepC u e_a_5, keepC u e_a_6, keepC u e_a_7, keepC u e_a_8, keepC u e_a_9, keepC u e_a_10, keepC u p0, keepC u p1, keepC u p2⟩ | go_keep)
          (first | (go_at_call 139; refine (CM1.out _).mono ?_; rintro e wz ⟨rfl, u⟩))
        have u9 : Below wr.heap.size wr wz := (Below.refl _ _).drew.trans u
        have hb9 := hbel.trans (u9.mono hbel.size)
        replace p3 := keepC u9 p3
        replace p4 := keepC u9 p4
        clear u p0 p1 p2
        clear e_a_0 e_a_1 e_a_2 e_a_3 e_a_4 e_a_5 e_a_6 e_a_7 e_a_8 e_a_9 e_a_10
        replace B_a := B_a.below u9
        have S_wz := u9.size
        have V_wz : Below w.heap.size w wz := V_wr.trans (u9.mono V_wr.size)
        clear V_wr
        clear u9
        have e_a_0 := B_a.a11_0
        have e_a_4 := B_a.a11_4
        go_wp2
        go_region_held3 (fun W => W.cell? ⟨w.heap.size, 0, none⟩ = some (.int .i64 a.P) ∧ W.cell? ⟨w.heap.size, 4, none⟩ = some (.int .i64 a.delta) ∧ W.cell? ⟨gb, ob + 2, none⟩ = some (.int .i64 v2) ∧ W.cell? ⟨gb, ob + 3, none⟩ = some (.int .i64 v3))
          (first | exact ⟨e_a_0, e_a_4, p3, p4⟩ | exact ⟨keepC u e_a_0, keepC u e_a_4, keepC u p3, keepC u p4⟩ | go_keep)
          (first | (go_at_call 117; refine (CB1.out _).mono ?_; rintro e w' ⟨rfl, hw⟩; replace hw := hw.symm; subst hw) | (go_at_call 140; refine (CG1.out _).mono ?_; rintro e wq ⟨rfl, u⟩))
        have u9 : Below wz.heap.size wz wq := (Below.refl _ _).drew.trans u
        have hbX := hb9.trans (u9.mono hb9.size)
        clear u p3 p4 hb9
        clear e_a_0 e_a_4
        replace B_a := B_a.below u9
        have S_wq := u9.size
        have V_wq : Below w.heap.size w wq := V_wz.trans (u9.mono V_wz.size)
        clear V_wz
        clear u9
        cases hb1
        · go_wp2
          go_ret
          exact ⟨ret_bool (by rw [HA.out]; simp), V_wq⟩
        · go_wp2
          go_roundw
          case rel => exact ⟨1 + 1, by omega, by go_num, hbX, fun _ => G0.out (by omega), fun _ => (by first | rfl | trivial)⟩
          case measure => simp [intOf]
    · obtain rfl : k = 2 := by omega
      go_wp2
      go_ret
      exact ⟨ret_bool (by rw [HA.out, G0.out (by omega), G1.out (by omega)]; rfl), V_wr⟩
set_option maxHeartbeats 16000000 in
set_option maxRecDepth 100000 in
theorem ptHolds_2 (a : Pl) (x : PlX) (b : Option Addr) (c : Nat) (body : List Int) (w : World) (h : PlR w x a.shares a.keys a.heard) (hM : Ints w b 2 c body) (hN : PlN a) (hs : a.step = 2) (hr : ∀ v ∈ body, 0 ≤ v ∧ v ≤ a.P - 1) :
    Calls Tryd.prog 121 #[.agg #[.int .i64 a.P, .int .i64 a.party, .int .i64 a.input, .int .i64 a.mask, .int .i64 a.delta, .slice x.sa x.sn x.sc, .slice x.ka x.kn x.kc, .int .i64 a.step, .slice x.ha x.hn x.hc, .int .i64 a.status, .int .i64 a.out], .slice b 2 c] w fun e w' => e = .returned (.bool (accT a body)) ∧ Below w.heap.size w w' := by
  have hp1 := hN.p1
  have hp2 := hN.p2
  have hde := hN.de
  have hl := hM.len
  have rd := dI_rng hN
  have re := eI_rng hN
  have k2 := hN.ky 2 (by omega)
  have k3 := hN.ky 3 (by omega)
  have k4 := hN.ky 4 (by omega)
  have k0 : ((a.step == 0) : Bool) = false := by simp; omega
  have k1 : ((a.step == 1) : Bool) = false := by simp; omega
  have LH := Lib.hid h
  have CF := Lib.hid (fun (W : World) (h2 : PlR W x a.shares a.keys a.heard) => ptSums_any a x W h2 hN (by omega))
  have HA : accT a body = holdB a.P a.delta (keyT a 0 0 (eI a) (dI a) 1 (dI a * eI a)) (body.getD 0 0) (body.getD 1 0) := by unfold accT; rw [if_neg (by omega), if_neg (by omega)]
  rw [HA]
  have r0 := hr _ (getD_mem body 0 (by omega))
  have r1 := hr _ (getD_mem body 1 (by omega))
  have m1 : 0 ≤ dI a * eI a := Int.mul_nonneg rd.1 re.1
  have m2 : dI a * eI a ≤ 1000 * 1000 := Int.mul_le_mul (by omega) (by omega) re.1 (by omega)
  have m3 : 0 ≤ dI a * kyI a 3 := Int.mul_nonneg rd.1 k3.1
  have m4 : dI a * kyI a 3 ≤ 1000 * 1000 := Int.mul_le_mul (by omega) (by omega) k3.1 (by omega)
  have m5 : 0 ≤ eI a * kyI a 2 := Int.mul_nonneg re.1 k2.1
  have m6 : eI a * kyI a 2 ≤ 1000 * 1000 := Int.mul_le_mul (by omega) (by omega) k2.1 (by omega)
  have der := emod_rng (dI a * eI a) a.P (by omega)
  have kr : 0 ≤ keyT a 0 0 (eI a) (dI a) 1 (dI a * eI a) ∧ keyT a 0 0 (eI a) (dI a) 1 (dI a * eI a) ≤ a.P - 1 := cmb_rng _ _ _ _ _ _ _ _ (by omega)
  have CM := Lib.hid (fun (W : World) => (show Calls Tryd.prog 139 #[.agg #[.int .i64 a.P, .int .i64 a.party, .int .i64 a.input, .int .i64 a.mask, .int .i64 a.delta, .slice x.sa x.sn x.sc, .slice x.ka x.kn x.kc, .int .i64 a.step, .slice x.ha x.hn x.hc, .int .i64 a.status, .int .i64 a.out], .int .i64 (kyI a 4 + dI a * kyI a 3 + eI a * kyI a 2), .int .i64 (dI a * eI a % a.P)] W fun e w' => e = .returned (.int .i64 (keyT a 0 0 (eI a) (dI a) 1 (dI a * eI a))) ∧ Below W.heap.size W w' by rw [← key2_eq hN]; exact ptMoved_any a x _ _ W hN (by omega) (by omega)))
  have CG := Lib.hid (fun (W : World) => tgHolds_any a.P a.delta (keyT a 0 0 (eI a) (dI a) 1 (dI a * eI a)) (body.getD 0 0) (body.getD 1 0) W (by omega) (by omega) (by omega) kr r0 r1)
  have t1 : IntKind.i64.wrap (dI a * eI a) = dI a * eI a := IntWalk.i64_in _ (by omega)
  have t2 : (dI a * eI a).tmod a.P = dI a * eI a % a.P := Int.tmod_eq_emod_of_nonneg (by omega)
  have t3 : IntKind.i64.wrap (dI a * eI a % a.P) = dI a * eI a % a.P := IntWalk.i64_in _ (by omega)
  have t4 : IntKind.i64.wrap (dI a * kyI a 3) = dI a * kyI a 3 := IntWalk.i64_in _ (by omega)
  have t5 : IntKind.i64.wrap (kyI a 4 + dI a * kyI a 3) = kyI a 4 + dI a * kyI a 3 := IntWalk.i64_in _ (by omega)
  have t6 : IntKind.i64.wrap (eI a * kyI a 2) = eI a * kyI a 2 := IntWalk.i64_in _ (by omega)
  have t9 : IntKind.i64.wrap (kyI a 4 + dI a * kyI a 3 + eI a * kyI a 2) = kyI a 4 + dI a * kyI a 3 + eI a * kyI a 2 := IntWalk.i64_in _ (by omega)
  have t7 : (a.P == 0) = false := by simp; omega
  have t8 : (a.P = 0) = False := by simp; omega
  obtain ⟨gb, ob, rfl, hbc⟩ := hM.cells (by omega)
  obtain ⟨_, hK, _⟩ := h
  have hk5 : x.kn = 5 := by have := hK.len; have := hN.kl; omega
  obtain ⟨gk, ok, hka, hkc⟩ := hK.cells (by omega)
  rw [hk5] at hkc
  have y0 : w.cell? ⟨gb, ob, none⟩ = some (.int .i64 (body.getD 0 0)) := hbc 0 (by omega)
  have y1 : w.cell? ⟨gb, ob + 1, none⟩ = some (.int .i64 (body.getD 1 0)) := hbc 1 (by omega)
  have c2 : w.cell? ⟨gk, ok + 2, none⟩ = some (.int .i64 (kyI a 2)) := hkc 2 (by omega)
  have c3 : w.cell? ⟨gk, ok + 3, none⟩ = some (.int .i64 (kyI a 3)) := hkc 3 (by omega)
  have c4 : w.cell? ⟨gk, ok + 4, none⟩ = some (.int .i64 (kyI a 4)) := hkc 4 (by omega)
  clear hbc hkc hK hM hN hs hr hl r0 r1 m1 m2 m3 m4 m5 m6 der kr HA rd re k2 k3 k4
  obtain ⟨x_sa, x_sn, x_sc, x_ka, x_kn, x_kc, x_ha, x_hn, x_hc⟩ := x
  dsimp only at *
  subst hka
  subst hk5
  generalize keyT a 0 0 (eI a) (dI a) 1 (dI a * eI a) = kk at *
  generalize body.getD 0 0 = v0 at *
  generalize body.getD 1 0 = v1 at *
  generalize holdB a.P a.delta kk v0 v1 = hb at *
  generalize dI a * eI a % a.P = DE at *
  generalize kyI a 2 = ka2 at *
  generalize kyI a 3 = ka3 at *
  generalize kyI a 4 = ka4 at *
  generalize dI a = D at *
  generalize eI a = EE at *
  go_enter Tryd.func121, Tryd.ntmps121
  go_wp2_with fail
  refine Exists.elim (Blk.new_ w (b := w.heap.size) rfl 31 #[.int .i64 a.P, .int .i64 a.party, .int .i64 a.input, .int .i64 a.mask, .int .i64 a.delta, .slice x_sa x_sn x_sc, .slice (some ⟨gk, ok, none⟩) 5 x_kc, .int .i64 a.step, .slice x_ha x_hn x_hc, .int .i64 a.status, .int .i64 a.out]) (fun w1' q => ?_)
  rw [q.1]; have B_a := q.2.1; have s_w1' := q.2.2.1; have u_w1' := q.2.2.2; clear q
  have S_w1' : w.heap.size + 1 ≤ w1'.heap.size := Nat.le_of_eq s_w1'.symm
  have V_w1' := (Below.refl w.heap.size w).trans (u_w1'.mono ((Below.refl w.heap.size w)).size)
  clear u_w1' s_w1'
  refine (CF.out _ (LH.out.below V_w1')).mono ?_
  rintro e w2' ⟨rfl, u_w2'⟩
  replace B_a := B_a.below u_w2'
  have S_w2' := u_w2'.size
  have V_w2' : Below w.heap.size w w2' := V_w1'.trans (u_w2'.mono V_w1'.size)
  clear V_w1'
  clear u_w2'
  have e_a_0 := B_a.a11_0
  have e_a_1 := B_a.a11_1
  have e_a_2 := B_a.a11_2
  have e_a_3 := B_a.a11_3
  have e_a_4 := B_a.a11_4
  have e_a_5 := B_a.a11_5
  have e_a_6 := B_a.a11_6
  have e_a_7 := B_a.a11_7
  have e_a_8 := B_a.a11_8
  have e_a_9 := B_a.a11_9
  have e_a_10 := B_a.a11_10
  have p2 := keepC V_w2' c2
  have p3 := keepC V_w2' c3
  have p4 := keepC V_w2' c4
  go_wp2
  refine wp_region_still_tail 25 (by kernel_rfl) (by kernel_rfl) ?_
  simp only [List.take_succ_cons, List.take_zero, List.drop_succ_cons, List.drop_zero]
  repeat still_step
  refine wpStill_nil ?_
  change wpList _ _ _ _ _ w2'.drew
  clear e_a_0 e_a_1 e_a_2 e_a_3 e_a_4 e_a_5 e_a_6 e_a_7 e_a_8 e_a_9 e_a_10
  clear p2 p3 p4
  have V_w3'_1 : Below w.heap.size w w2'.drew := (V_w2').drew
  replace B_a := B_a.drew
  have S_w3' : w2'.heap.size + 0 ≤ w2'.drew.heap.size := by first | (simp; done) | (simp; omega) | (simp [World.setCell]; done) | (simp [World.setCell]; omega)
  generalize w2'.drew = w3' at *
  have V_w3' : Below w.heap.size w w3' := V_w3'_1
  clear V_w2'
  clear V_w3'_1
  go_wp2_with fail
  refine (CM.out _).mono ?_
  rintro e w4' ⟨rfl, u_w4'⟩
  replace B_a := B_a.below u_w4'
  have S_w4' := u_w4'.size
  have V_w4' : Below w.heap.size w w4' := V_w3'.trans (u_w4'.mono V_w3'.size)
  clear V_w3'
  clear u_w4'
  have e_a_0 := B_a.a11_0
  have e_a_1 := B_a.a11_1
  have e_a_2 := B_a.a11_2
  have e_a_3 := B_a.a11_3
  have e_a_4 := B_a.a11_4
  have e_a_5 := B_a.a11_5
  have e_a_6 := B_a.a11_6
  have e_a_7 := B_a.a11_7
  have e_a_8 := B_a.a11_8
  have e_a_9 := B_a.a11_9
  have e_a_10 := B_a.a11_10
  have p0 := keepC V_w4' y0
  have p1 := keepC V_w4' y1
  go_wp2
  refine wp_region_still_tail 12 (by kernel_rfl) (by kernel_rfl) ?_
  simp only [List.take_succ_cons, List.take_zero, List.drop_succ_cons, List.drop_zero]
  repeat still_step
  refine wpStill_nil ?_
  change wpList _ _ _ _ _ w4'.drew
  clear e_a_0 e_a_1 e_a_2 e_a_3 e_a_4 e_a_5 e_a_6 e_a_7 e_a_8 e_a_9 e_a_10
  clear p0 p1
  have V_w5'_1 : Below w.heap.size w w4'.drew := (V_w4').drew
  replace B_a := B_a.drew
  have S_w5' : w4'.heap.size + 0 ≤ w4'.drew.heap.size := by first | (simp; done) | (simp; omega) | (simp [World.setCell]; done) | (simp [World.setCell]; omega)
  generalize w4'.drew = w5' at *
  have V_w5' : Below w.heap.size w w5' := V_w5'_1
  clear V_w4'
  clear V_w5'_1
  go_wp2_with fail
  refine (CG.out _).mono ?_
  rintro e w6' ⟨rfl, u_w6'⟩
  replace B_a := B_a.below u_w6'
  have S_w6' := u_w6'.size
  have V_w6' : Below w.heap.size w w6' := V_w5'.trans (u_w6'.mono V_w5'.size)
  clear V_w5'
  clear u_w6'
  go_wp2
  go_ret
  exact ⟨rfl, V_w6'⟩
theorem ptHolds_any (a : Pl) (x : PlX) (b : Option Addr) (n c : Nat) (body : List Int) (w : World) (h : PlR w x a.shares a.keys a.heard) (hM : Ints w b n c body) (hN : PlN a) (hs : a.step ≤ 2) (hl : n = blen a.step.toNat) (hr : ∀ v ∈ body, 0 ≤ v ∧ v ≤ a.P - 1) :
    Calls Tryd.prog 121 #[.agg #[.int .i64 a.P, .int .i64 a.party, .int .i64 a.input, .int .i64 a.mask, .int .i64 a.delta, .slice x.sa x.sn x.sc, .slice x.ka x.kn x.kc, .int .i64 a.step, .slice x.ha x.hn x.hc, .int .i64 a.status, .int .i64 a.out], .slice b n c] w fun e w' => e = .returned (.bool (accT a body)) ∧ Below w.heap.size w w' := by
  have h0 := hN.stp
  have : a.step = 0 ∨ a.step = 1 ∨ a.step = 2 := by omega
  rcases this with e | e | e
  · exact ptHolds_0 a x b n c body w e
  · rw [e] at hl
    obtain rfl : n = 4 := hl
    exact ptHolds_1 a x b c body w h hM hN e hr
  · rw [e] at hl
    obtain rfl : n = 2 := hl
    exact ptHolds_2 a x b c body w h hM hN e hr
end Go.Proofs.YtlmdckcohoddnaaDoor
namespace Go.Proofs.YtlmdckcohoddnaaDoor
open Go.RowKit
theorem run_step {a : Pl} (h : plB a = true) (h0 : a.status = 0) : a.step ≤ 2 := by
  have g := (plB_parts h).2.2.2.2.2.2.2.2.2.2.2.1
  unfold plB at h
  simp only [Bool.and_eq_true] at h
  obtain ⟨_, _, _, _, _, _, _, _, _, _, h10⟩ := h
  unfold endB at h10
  split at h10
  · have := of_decide_eq_true h10; omega
  · omega
end Go.Proofs.YtlmdckcohoddnaaDoor
