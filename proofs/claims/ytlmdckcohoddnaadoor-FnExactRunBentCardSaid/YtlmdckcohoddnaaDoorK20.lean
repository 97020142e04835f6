/- Lemmas and walks that the claim's proof rests on, part 20. -/
import Derived.Test.YtlmdckcohoddnaaDoorK19
namespace Go.Proofs.YtlmdckcohoddnaaDoor
open Go.RowKit
structure InvRunBentRD where
  l1 : Bool
  l3 : Bool
  l7 : Bool
  l12 : Bool
  l13 : Bool
  v1 : Value
  v3 : Value
  v7 : Value
  v12 : Value
  v13 : Value
  v8 : Value
  v9 : Value
  v10 : Value
  v11 : Value
  y0 : PlX
  F_y0 : List Nat
  y1 : PlX
  F_y1 : List Nat
  r0 : PlX
  F_r0 : List Nat
  r1 : PlX
  F_r1 : List Nat
  bx_r0 : Nat
  bx_r1 : Nat
structure InvRunBentRF (W0 : World) (a0 : Pl) (a1 : Pl) (a2 : Int) (a3 : Int) (a4 : Int) (d0_0 : Pl) (d1_0 : Pl) (d2_0 : Bool) (l1 : Bool) (l3 : Bool) (l7 : Bool) (l12 : Bool) (l13 : Bool) (v1 : Value) (v3 : Value) (v7 : Value) (v12 : Value) (v13 : Value) (v8 : Value) (v9 : Value) (v10 : Value) (v11 : Value) (y0 : PlX) (F_y0 : List Nat) (y1 : PlX) (F_y1 : List Nat) (r0 : PlX) (F_r0 : List Nat) (r1 : PlX) (F_r1 : List Nat) (bx_r0 : Nat) (bx_r1 : Nat) (wJ : World) : Prop where
  U : Below W0.heap.size W0 wJ
  k3_1 : l3 = true → l1 = true
  k7_1 : l7 = true → l1 = true
  k7_3 : l7 = true → l3 = true
  vq1 : l1 = true → v1 = .agg #[.int .i64 a0.P, .int .i64 a0.party, .int .i64 a0.input, .int .i64 a0.mask, .int .i64 a0.delta, .slice y0.sa y0.sn y0.sc, .slice y0.ka y0.kn y0.kc, .int .i64 a0.step, .slice y0.ha y0.hn y0.hc, .int .i64 a0.status, .int .i64 a0.out]
  oy0 : l1 = true → PlO wJ W0.heap.size y0 a0.shares a0.keys a0.heard F_y0
  vq3 : l3 = true → v3 = .agg #[.int .i64 a1.P, .int .i64 a1.party, .int .i64 a1.input, .int .i64 a1.mask, .int .i64 a1.delta, .slice y1.sa y1.sn y1.sc, .slice y1.ka y1.kn y1.kc, .int .i64 a1.step, .slice y1.ha y1.hn y1.hc, .int .i64 a1.status, .int .i64 a1.out]
  oy1 : l3 = true → PlO wJ W0.heap.size y1 a1.shares a1.keys a1.heard F_y1
  vq7 : l7 = true → v7 = .tuple #[.agg #[.int .i64 d0_0.P, .int .i64 d0_0.party, .int .i64 d0_0.input, .int .i64 d0_0.mask, .int .i64 d0_0.delta, .slice r0.sa r0.sn r0.sc, .slice r0.ka r0.kn r0.kc, .int .i64 d0_0.step, .slice r0.ha r0.hn r0.hc, .int .i64 d0_0.status, .int .i64 d0_0.out], .agg #[.int .i64 d1_0.P, .int .i64 d1_0.party, .int .i64 d1_0.input, .int .i64 d1_0.mask, .int .i64 d1_0.delta, .slice r1.sa r1.sn r1.sc, .slice r1.ka r1.kn r1.kc, .int .i64 d1_0.step, .slice r1.ha r1.hn r1.hc, .int .i64 d1_0.status, .int .i64 d1_0.out], .bool d2_0]
  vq8 : l7 = true → v8 = .tuple #[.agg #[.int .i64 d0_0.P, .int .i64 d0_0.party, .int .i64 d0_0.input, .int .i64 d0_0.mask, .int .i64 d0_0.delta, .slice r0.sa r0.sn r0.sc, .slice r0.ka r0.kn r0.kc, .int .i64 d0_0.step, .slice r0.ha r0.hn r0.hc, .int .i64 d0_0.status, .int .i64 d0_0.out], .agg #[.int .i64 d1_0.P, .int .i64 d1_0.party, .int .i64 d1_0.input, .int .i64 d1_0.mask, .int .i64 d1_0.delta, .slice r1.sa r1.sn r1.sc, .slice r1.ka r1.kn r1.kc, .int .i64 d1_0.step, .slice r1.ha r1.hn r1.hc, .int .i64 d1_0.status, .int .i64 d1_0.out], .bool d2_0]
  vq9 : l7 = true → v9 = .agg #[.int .i64 d0_0.P, .int .i64 d0_0.party, .int .i64 d0_0.input, .int .i64 d0_0.mask, .int .i64 d0_0.delta, .slice r0.sa r0.sn r0.sc, .slice r0.ka r0.kn r0.kc, .int .i64 d0_0.step, .slice r0.ha r0.hn r0.hc, .int .i64 d0_0.status, .int .i64 d0_0.out]
  vq10 : l7 = true → v10 = .agg #[.int .i64 d1_0.P, .int .i64 d1_0.party, .int .i64 d1_0.input, .int .i64 d1_0.mask, .int .i64 d1_0.delta, .slice r1.sa r1.sn r1.sc, .slice r1.ka r1.kn r1.kc, .int .i64 d1_0.step, .slice r1.ha r1.hn r1.hc, .int .i64 d1_0.status, .int .i64 d1_0.out]
  vq11 : l7 = true → v11 = .bool d2_0
  or0 : l7 = true → PlO wJ W0.heap.size r0 d0_0.shares d0_0.keys d0_0.heard F_r0
  or1 : l7 = true → PlO wJ W0.heap.size r1 d1_0.shares d1_0.keys d1_0.heard F_r1
  dj_r0_r1 : l7 = true → Disj (F_r0) (F_r1)
  vq12 : l12 = true → v12 = .pointer (some ⟨bx_r0, 0, none⟩)
  Bx_r0 : l12 = true → Blk wJ bx_r0 31 #[.int .i64 0, .int .i64 0, .int .i64 0, .int .i64 0, .int .i64 0, .slice none 0 0, .slice none 0 0, .int .i64 0, .slice none 0 0, .int .i64 0, .int .i64 0]
  hb_r0 : l12 = true → (W0.heap.size ≤ bx_r0 ∧ bx_r0 < wJ.heap.size)
  N_r0_0 : l7 = true → l12 = true → (∀ k ∈ F_r0, k ≠ bx_r0)
  N_r1_0 : l7 = true → l12 = true → (∀ k ∈ F_r1, k ≠ bx_r0)
  vq13 : l13 = true → v13 = .pointer (some ⟨bx_r1, 0, none⟩)
  Bx_r1 : l13 = true → Blk wJ bx_r1 31 #[.int .i64 0, .int .i64 0, .int .i64 0, .int .i64 0, .int .i64 0, .slice none 0 0, .slice none 0 0, .int .i64 0, .slice none 0 0, .int .i64 0, .int .i64 0]
  hb_r1 : l13 = true → (W0.heap.size ≤ bx_r1 ∧ bx_r1 < wJ.heap.size)
  N_r0_1 : l7 = true → l13 = true → (∀ k ∈ F_r0, k ≠ bx_r1)
  N_r1_1 : l7 = true → l13 = true → (∀ k ∈ F_r1, k ≠ bx_r1)
  hne_r0_1 : l12 = true → l13 = true → bx_r0 ≠ bx_r1
structure InvRunBentHD where
  l1 : Bool
  l3 : Bool
  l7 : Bool
  l12 : Bool
  l13 : Bool
  v1 : Value
  v3 : Value
  v7 : Value
  v12 : Value
  v13 : Value
  v8 : Value
  v9 : Value
  v10 : Value
  v11 : Value
  x0 : PlX
  F_x0 : List Nat
  x1 : PlX
  F_x1 : List Nat
  h0 : PlX
  F_h0 : List Nat
  h1 : PlX
  F_h1 : List Nat
  bx_h0 : Nat
  bx_h1 : Nat
structure InvRunBentHF (W0 : World) (a0 : Pl) (a1 : Pl) (a2 : Int) (a3 : Int) (a4 : Int) (d0_0 : Pl) (d1_0 : Pl) (d2_0 : Bool) (l1 : Bool) (l3 : Bool) (l7 : Bool) (l12 : Bool) (l13 : Bool) (v1 : Value) (v3 : Value) (v7 : Value) (v12 : Value) (v13 : Value) (v8 : Value) (v9 : Value) (v10 : Value) (v11 : Value) (x0 : PlX) (F_x0 : List Nat) (x1 : PlX) (F_x1 : List Nat) (h0 : PlX) (F_h0 : List Nat) (h1 : PlX) (F_h1 : List Nat) (bx_h0 : Nat) (bx_h1 : Nat) (wJ : World) : Prop where
  U : Below W0.heap.size W0 wJ
  k3_1 : l3 = true → l1 = true
  k7_1 : l7 = true → l1 = true
  k7_3 : l7 = true → l3 = true
  vq1 : l1 = true → v1 = .agg #[.int .i64 a0.P, .int .i64 a0.party, .int .i64 a0.input, .int .i64 a0.mask, .int .i64 a0.delta, .slice x0.sa x0.sn x0.sc, .slice x0.ka x0.kn x0.kc, .int .i64 a0.step, .slice x0.ha x0.hn x0.hc, .int .i64 a0.status, .int .i64 a0.out]
  ox0 : l1 = true → PlO wJ W0.heap.size x0 a0.shares a0.keys a0.heard F_x0
  vq3 : l3 = true → v3 = .agg #[.int .i64 a1.P, .int .i64 a1.party, .int .i64 a1.input, .int .i64 a1.mask, .int .i64 a1.delta, .slice x1.sa x1.sn x1.sc, .slice x1.ka x1.kn x1.kc, .int .i64 a1.step, .slice x1.ha x1.hn x1.hc, .int .i64 a1.status, .int .i64 a1.out]
  ox1 : l3 = true → PlO wJ W0.heap.size x1 a1.shares a1.keys a1.heard F_x1
  vq7 : l7 = true → v7 = .tuple #[.agg #[.int .i64 d0_0.P, .int .i64 d0_0.party, .int .i64 d0_0.input, .int .i64 d0_0.mask, .int .i64 d0_0.delta, .slice h0.sa h0.sn h0.sc, .slice h0.ka h0.kn h0.kc, .int .i64 d0_0.step, .slice h0.ha h0.hn h0.hc, .int .i64 d0_0.status, .int .i64 d0_0.out], .agg #[.int .i64 d1_0.P, .int .i64 d1_0.party, .int .i64 d1_0.input, .int .i64 d1_0.mask, .int .i64 d1_0.delta, .slice h1.sa h1.sn h1.sc, .slice h1.ka h1.kn h1.kc, .int .i64 d1_0.step, .slice h1.ha h1.hn h1.hc, .int .i64 d1_0.status, .int .i64 d1_0.out], .bool d2_0]
  vq8 : l7 = true → v8 = .tuple #[.agg #[.int .i64 d0_0.P, .int .i64 d0_0.party, .int .i64 d0_0.input, .int .i64 d0_0.mask, .int .i64 d0_0.delta, .slice h0.sa h0.sn h0.sc, .slice h0.ka h0.kn h0.kc, .int .i64 d0_0.step, .slice h0.ha h0.hn h0.hc, .int .i64 d0_0.status, .int .i64 d0_0.out], .agg #[.int .i64 d1_0.P, .int .i64 d1_0.party, .int .i64 d1_0.input, .int .i64 d1_0.mask, .int .i64 d1_0.delta, .slice h1.sa h1.sn h1.sc, .slice h1.ka h1.kn h1.kc, .int .i64 d1_0.step, .slice h1.ha h1.hn h1.hc, .int .i64 d1_0.status, .int .i64 d1_0.out], .bool d2_0]
  vq9 : l7 = true → v9 = .agg #[.int .i64 d0_0.P, .int .i64 d0_0.party, .int .i64 d0_0.input, .int .i64 d0_0.mask, .int .i64 d0_0.delta, .slice h0.sa h0.sn h0.sc, .slice h0.ka h0.kn h0.kc, .int .i64 d0_0.step, .slice h0.ha h0.hn h0.hc, .int .i64 d0_0.status, .int .i64 d0_0.out]
  vq10 : l7 = true → v10 = .agg #[.int .i64 d1_0.P, .int .i64 d1_0.party, .int .i64 d1_0.input, .int .i64 d1_0.mask, .int .i64 d1_0.delta, .slice h1.sa h1.sn h1.sc, .slice h1.ka h1.kn h1.kc, .int .i64 d1_0.step, .slice h1.ha h1.hn h1.hc, .int .i64 d1_0.status, .int .i64 d1_0.out]
  vq11 : l7 = true → v11 = .bool d2_0
  oh0 : l7 = true → PlO wJ W0.heap.size h0 d0_0.shares d0_0.keys d0_0.heard F_h0
  oh1 : l7 = true → PlO wJ W0.heap.size h1 d1_0.shares d1_0.keys d1_0.heard F_h1
  dj_h0_h1 : l7 = true → Disj (F_h0) (F_h1)
  vq12 : l12 = true → v12 = .pointer (some ⟨bx_h0, 0, none⟩)
  Bx_h0 : l12 = true → Blk wJ bx_h0 31 #[.int .i64 0, .int .i64 0, .int .i64 0, .int .i64 0, .int .i64 0, .slice none 0 0, .slice none 0 0, .int .i64 0, .slice none 0 0, .int .i64 0, .int .i64 0]
  hb_h0 : l12 = true → (W0.heap.size ≤ bx_h0 ∧ bx_h0 < wJ.heap.size)
  N_h0_0 : l7 = true → l12 = true → (∀ k ∈ F_h0, k ≠ bx_h0)
  N_h1_0 : l7 = true → l12 = true → (∀ k ∈ F_h1, k ≠ bx_h0)
  vq13 : l13 = true → v13 = .pointer (some ⟨bx_h1, 0, none⟩)
  Bx_h1 : l13 = true → Blk wJ bx_h1 31 #[.int .i64 0, .int .i64 0, .int .i64 0, .int .i64 0, .int .i64 0, .slice none 0 0, .slice none 0 0, .int .i64 0, .slice none 0 0, .int .i64 0, .int .i64 0]
  hb_h1 : l13 = true → (W0.heap.size ≤ bx_h1 ∧ bx_h1 < wJ.heap.size)
  N_h0_1 : l7 = true → l13 = true → (∀ k ∈ F_h0, k ≠ bx_h1)
  N_h1_1 : l7 = true → l13 = true → (∀ k ∈ F_h1, k ≠ bx_h1)
  hne_h0_1 : l12 = true → l13 = true → bx_h0 ≠ bx_h1
set_option maxHeartbeats 16000000 in
set_option maxRecDepth 100000 in
theorem FnExactRunBent_walk (a0 : Pl) (p0 : PlX) (a1 : Pl) (p1 : PlX) (a2 : Int) (a3 : Int) (a4 : Int) (w : World) (z0 : PlR w p0 a0.shares a0.keys a0.heard) (z1 : PlR w p1 a1.shares a1.keys a1.heard) (_w2 : -9223372036854775808 ≤ a2 ∧ a2 ≤ 9223372036854775807) (_w3 : -9223372036854775808 ≤ a3 ∧ a3 ≤ 9223372036854775807) (_w4 : -9223372036854775808 ≤ a4 ∧ a4 ≤ 9223372036854775807) (hT : Tbl w) :
    Calls Tryd.prog 9 #[.agg #[.int .i64 a0.P, .int .i64 a0.party, .int .i64 a0.input, .int .i64 a0.mask, .int .i64 a0.delta, .slice p0.sa p0.sn p0.sc, .slice p0.ka p0.kn p0.kc, .int .i64 a0.step, .slice p0.ha p0.hn p0.hc, .int .i64 a0.status, .int .i64 a0.out], .agg #[.int .i64 a1.P, .int .i64 a1.party, .int .i64 a1.input, .int .i64 a1.mask, .int .i64 a1.delta, .slice p1.sa p1.sn p1.sc, .slice p1.ka p1.kn p1.kc, .int .i64 a1.step, .slice p1.ha p1.hn p1.hc, .int .i64 a1.status, .int .i64 a1.out], .int .i64 a2, .int .i64 a3, .int .i64 a4] w fun e w' => e = .returned (.bool true) ∧ Below w.heap.size w w' := by
  have LX := Lib.hid hT
  clear hT
  have CS := fun (W : World) (x0 : PlX) (x1 : PlX) => spec_RunBent_any a0 x0 a1 x1 a2 a3 a4 W
  have CI := fun (W : World) (x0 : PlX) (x1 : PlX) => RunBent_any a0 x0 a1 x1 a2 a3 a4 W
  have hl0 := rbR_1 a0 a1 a2 a3 a4
  have hl1 := rbR_2 a0 a1 a2 a3 a4
  generalize (rbR a0 a1 a2 a3 a4).1 = d0_0 at CS CI hl0 hl1
  generalize (rbR a0 a1 a2 a3 a4).2 = d1_0 at CS CI hl0 hl1
  generalize rbB a0 a1 a2 a3 a4 = d2_0 at CS CI hl0 hl1
  replace CS := Lib.hid CS
  replace CI := Lib.hid CI
  by_cases ht0 : (szP p0 a0.shares a0.keys a0.heard : Int) ≤ 1048576
  · skip
    by_cases ht1 : (szP p1 a1.shares a1.keys a1.heard : Int) ≤ 1048576 - (szP p0 a0.shares a0.keys a0.heard : Int)
    · skip
      go_enter Tryd.func9, Tryd.ntmps9
      go_wp2_with fail
      refine Exists.elim (Blk.new_ w (b := w.heap.size) rfl 26 #[.int .i64 a0.P, .int .i64 a0.party, .int .i64 a0.input, .int .i64 a0.mask, .int .i64 a0.delta, .slice p0.sa p0.sn p0.sc, .slice p0.ka p0.kn p0.kc, .int .i64 a0.step, .slice p0.ha p0.hn p0.hc, .int .i64 a0.status, .int .i64 a0.out]) (fun w1_a0' q => ?_)
      rw [q.1]; have B_p0 := q.2.1; have s_w1_a0' := q.2.2.1; have u_w1_a0' := q.2.2.2; clear q
      refine Exists.elim (Blk.new_ w1_a0' (b := w.heap.size + 1) s_w1_a0' 26 #[.int .i64 a1.P, .int .i64 a1.party, .int .i64 a1.input, .int .i64 a1.mask, .int .i64 a1.delta, .slice p1.sa p1.sn p1.sc, .slice p1.ka p1.kn p1.kc, .int .i64 a1.step, .slice p1.ha p1.hn p1.hc, .int .i64 a1.status, .int .i64 a1.out]) (fun w1' q => ?_)
      rw [q.1]; have B_p1 := q.2.1; have s_w1' := q.2.2.1; have u_w1' := q.2.2.2; clear q
      replace B_p0 := (B_p0.below u_w1')
      have U := (u_w1_a0'.trans (u_w1'.mono u_w1_a0'.size))
      have V_w1' := (Below.refl w.heap.size w).trans (U.mono ((Below.refl w.heap.size w)).size)
      have S_w1' : w.heap.size + 2 ≤ w1'.heap.size := Nat.le_of_eq s_w1'.symm
      clear u_w1_a0' u_w1' s_w1_a0' s_w1' U
      refine (szPlayer_o_yes a0 p0 (1048576) _ (z0.below V_w1') (by omega) (by omega)).mono ?_
      rintro e w2' ⟨rfl, u_w2'⟩
      replace B_p0 := B_p0.below u_w2'
      replace B_p1 := B_p1.below u_w2'
      have V_w2' := V_w1'.trans (u_w2'.mono (V_w1').size)
      have S_w2' := u_w2'.size
      clear u_w2' V_w1'
      have e_p1 := B_p1.all11
      go_wp2_with fail
      clear e_p1
      refine (szPlayer_o_yes a1 p1 (1048576 - (szP p0 a0.shares a0.keys a0.heard : Int)) _ (z1.below V_w2') (by omega) (by omega)).mono ?_
      rintro e w3' ⟨rfl, u_w3'⟩
      replace B_p0 := B_p0.below u_w3'
      replace B_p1 := B_p1.below u_w3'
      have V_w3' := V_w2'.trans (u_w3'.mono (V_w2').size)
      have S_w3' := u_w3'.size
      clear u_w3' V_w2'
      have hlf : (0 : Int) ≤ 1048576 - (szP p0 a0.shares a0.keys a0.heard : Int) - (szP p1 a1.shares a1.keys a1.heard : Int) := by omega
      have hcn0 := z0.cnt (by omega)
      replace ht0 : (szP p0 a0.shares a0.keys a0.heard : Int) ≤ 1048576 := by omega
      have hcn1 := z1.cnt (by omega)
      replace ht1 : (szP p1 a1.shares a1.keys a1.heard : Int) ≤ 1048576 := by omega
      go_upto_region 8 with fail
      go_cut [12, 13, 14] (fun s12 s13 s14 wx => ∃ (r0 : PlX) (F_r0 : List Nat) (r1 : PlX) (F_r1 : List Nat) (bx_r0 : Nat) (bx_r1 : Nat), s12 = .pointer (some ⟨bx_r0, 0, none⟩) ∧ s13 = .pointer (some ⟨bx_r1, 0, none⟩) ∧ s14 = .bool d2_0 ∧ PlO wx w3'.heap.size r0 d0_0.shares d0_0.keys d0_0.heard F_r0 ∧ PlO wx w3'.heap.size r1 d1_0.shares d1_0.keys d1_0.heard F_r1 ∧ (∀ k ∈ F_r0, (w3'.heap.size ≤ k ∧ k < wx.heap.size) ∧ k ≠ bx_r0 ∧ k ≠ bx_r1) ∧ (∀ k ∈ F_r1, (w3'.heap.size ≤ k ∧ k < wx.heap.size) ∧ k ≠ bx_r0 ∧ k ≠ bx_r1) ∧ Disj (F_r0) (F_r1) ∧ Blk wx bx_r0 31 #[.int .i64 d0_0.P, .int .i64 d0_0.party, .int .i64 d0_0.input, .int .i64 d0_0.mask, .int .i64 d0_0.delta, .slice r0.sa r0.sn r0.sc, .slice r0.ka r0.kn r0.kc, .int .i64 d0_0.step, .slice r0.ha r0.hn r0.hc, .int .i64 d0_0.status, .int .i64 d0_0.out] ∧ Blk wx bx_r1 31 #[.int .i64 d1_0.P, .int .i64 d1_0.party, .int .i64 d1_0.input, .int .i64 d1_0.mask, .int .i64 d1_0.delta, .slice r1.sa r1.sn r1.sc, .slice r1.ka r1.kn r1.kc, .int .i64 d1_0.step, .slice r1.ha r1.hn r1.hc, .int .i64 d1_0.status, .int .i64 d1_0.out] ∧ (w3'.heap.size ≤ bx_r0 ∧ bx_r0 < wx.heap.size) ∧ (w3'.heap.size ≤ bx_r1 ∧ bx_r1 < wx.heap.size) ∧ bx_r0 ≠ bx_r1 ∧ Below w3'.heap.size w3' wx)
      case first =>
        replace B_p0 := Blk.drew B_p0
        replace B_p1 := Blk.drew B_p1
        replace B_p0 := Blk.drew B_p0
        replace B_p1 := Blk.drew B_p1
        refine wp_region_noPanic ?_
        refine wp_region_held_drew (S := (fun W => Blk W (w.heap.size) 26 #[.int .i64 a0.P, .int .i64 a0.party, .int .i64 a0.input, .int .i64 a0.mask, .int .i64 a0.delta, .slice p0.sa p0.sn p0.sc, .slice p0.ka p0.kn p0.kc, .int .i64 a0.step, .slice p0.ha p0.hn p0.hc, .int .i64 a0.status, .int .i64 a0.out] ∧ Blk W (w.heap.size + 1) 26 #[.int .i64 a1.P, .int .i64 a1.party, .int .i64 a1.input, .int .i64 a1.mask, .int .i64 a1.delta, .slice p1.sa p1.sn p1.sc, .slice p1.ka p1.kn p1.kc, .int .i64 a1.step, .slice p1.ha p1.hn p1.hc, .int .i64 a1.status, .int .i64 a1.out])) (by kernel_rfl) ?hS1 (fun hHeld => ?go1)
        case hS1 => exact ⟨B_p0, B_p1⟩
        refine tk (i := 0) (oi := ⟨some 37, _, _, _, _, _⟩) (v := ?v0_2) hHeld rfl ?y0_2 ?r0_2
        case y0_2 => (intro w hSw; obtain ⟨qS0, qS1⟩ := hSw; have cS0 := qS0.all11; have cS1 := qS1.all11; first | (go_simp; done) | (go_simp; with_reducible rfl) | (with_reducible rfl))
        (try simp only [pt_])
        refine tk (i := 2) (oi := ⟨some 39, _, _, _, _, _⟩) (v := ?v2_3) hHeld rfl ?y2_3 ?r2_3
        case y2_3 => (intro w hSw; obtain ⟨qS0, qS1⟩ := hSw; have cS0 := qS0.all11; have cS1 := qS1.all11; first | (go_simp; done) | (go_simp; with_reducible rfl) | (with_reducible rfl))
        (try simp only [pt_])
        refine tk (i := 4) (oi := ⟨some 41, _, _, _, _, _⟩) (v := ?v4_4) hHeld rfl ?y4_4 ?r4_4
        case y4_4 => (intro w _; first | (go_simp; done) | (go_simp; with_reducible rfl) | (with_reducible rfl))
        (try simp only [pt_])
        refine tk (i := 5) (oi := ⟨some 42, _, _, _, _, _⟩) (v := ?v5_5) hHeld rfl ?y5_5 ?r5_5
        case y5_5 => (intro w _; first | (go_simp; done) | (go_simp; with_reducible rfl) | (with_reducible rfl))
        (try simp only [pt_])
        refine tk (i := 6) (oi := ⟨some 43, _, _, _, _, _⟩) (v := ?v6_6) hHeld rfl ?y6_6 ?r6_6
        case y6_6 => (intro w _; first | (go_simp; done) | (go_simp; with_reducible rfl) | (with_reducible rfl))
        (try simp only [pt_])
        rotate_left 1
        refine wpAnyH_invG [1, 3, 7, 12, 13] #[true, false, true, false, true, true, true, false, false, false, false, false, false, false, false, false, false] #[true, true, true, true, true, true, true, true, true, true, true, true, true, true, false, false, false] 12 3 (fun (a0J : Act) (lJ : Array Bool) (aJ : Act) (wJ : World) => ∃ dJ : InvRunBentRD, lJ = #[true, dJ.l1, true, dJ.l3, true, true, true, dJ.l7, dJ.l7, dJ.l7, dJ.l7, dJ.l7, dJ.l12, dJ.l13, false, false, false] ∧ aJ = (((((((((a0J.put (some 38) dJ.v1).put (some 40) dJ.v3).put (some 44) dJ.v7).put (some 12) dJ.v12).put (some 13) dJ.v13).put (some 36) dJ.v8).put (some 45) dJ.v9).put (some 46) dJ.v10).put (some 47) dJ.v11) ∧ InvRunBentRF w3' a0 a1 a2 a3 a4 d0_0 d1_0 d2_0 dJ.l1 dJ.l3 dJ.l7 dJ.l12 dJ.l13 dJ.v1 dJ.v3 dJ.v7 dJ.v12 dJ.v13 dJ.v8 dJ.v9 dJ.v10 dJ.v11 dJ.y0 dJ.F_y0 dJ.y1 dJ.F_y1 dJ.r0 dJ.F_r0 dJ.r1 dJ.F_r1 dJ.bx_r0 dJ.bx_r1 wJ) (fun T => #[true, T.getD 0 true, true, T.getD 1 true, true, true, true, T.getD 2 true, T.getD 2 true, T.getD 2 true, T.getD 2 true, T.getD 2 true, T.getD 3 true, T.getD 4 true, false, false, false]) (by kernel_rfl) (by kernel_rfl) (by kernel_rfl) (by kernel_rfl) (by kernel_rfl) ?hJ hHeld ?hi ?hs ?he
        case hJ => rintro lJ aJ wJ ⟨dJ, rfl, _⟩; exact ⟨[dJ.l1, dJ.l3, dJ.l7, dJ.l12, dJ.l13], rfl, rfl⟩
        case hi => exact ⟨⟨false, false, false, false, false, _, _, _, _, _, _, _, _, _, zeroX, [], zeroX, [], zeroX, [], zeroX, [], 0, 0⟩, rfl, (Act.selfs (Act.selfs (Act.selfs (Act.selfs (Act.selfs (Act.selfs (Act.selfs (Act.selfs (Act.selfs rfl 38) 40) 44) 12) 13) 36) 45) 46) 47), ⟨(Below.refl _ _).drew, fun q0 => (by cases q0), fun q0 => (by cases q0), fun q0 => (by cases q0), fun q0 => (by cases q0), fun q0 => (by cases q0), fun q0 => (by cases q0), fun q0 => (by cases q0), fun q0 => (by cases q0), fun q0 => (by cases q0), fun q0 => (by cases q0), fun q0 => (by cases q0), fun q0 => (by cases q0), fun q0 => (by cases q0), fun q0 => (by cases q0), fun q0 => (by cases q0), fun q0 => (by cases q0), fun q0 => (by cases q0), fun q0 => (by cases q0), fun q0 q1 => (by cases q0), fun q0 q1 => (by cases q0), fun q0 => (by cases q0), fun q0 => (by cases q0), fun q0 => (by cases q0), fun q0 q1 => (by cases q0), fun q0 q1 => (by cases q0), fun q0 q1 => (by cases q0)⟩⟩
        case hs =>
          refine StepsG.cons (o := { dst := some 38, op := _, type := _, pos := _, after := _, guard := _ }) rfl ?_ ?_
          · intro nG lJ aJ wi K IH hS hJ hz0 hd hK
            obtain ⟨dJ, hJ⟩ := hJ
            obtain ⟨e1, hJ⟩ := hJ
            obtain ⟨e2, hF⟩ := hJ
            subst e1
            subst e2
            cases dJ with | mk l1 l3 l7 l12 l13 v1 v3 v7 v12 v13 v8 v9 v10 v11 y0 F_y0 y1 F_y1 r0 F_r0 r1 F_r1 bx_r0 bx_r1 =>
            replace hF : InvRunBentRF w3' a0 a1 a2 a3 a4 d0_0 d1_0 d2_0 l1 l3 l7 l12 l13 v1 v3 v7 v12 v13 v8 v9 v10 v11 y0 F_y0 y1 F_y1 r0 F_r0 r1 F_r1 bx_r0 bx_r1 wi := hF
            have U := hF.U
            have k3_1 := hF.k3_1
            have k7_1 := hF.k7_1
            have k7_3 := hF.k7_3
            have vq1 := hF.vq1
            have oy0 := hF.oy0
            have vq3 := hF.vq3
            have oy1 := hF.oy1
            have vq7 := hF.vq7
            have vq8 := hF.vq8
            have vq9 := hF.vq9
            have vq10 := hF.vq10
            have vq11 := hF.vq11
            have or0 := hF.or0
            have or1 := hF.or1
            have dj_r0_r1 := hF.dj_r0_r1
            have vq12 := hF.vq12
            have Bx_r0 := hF.Bx_r0
            have hb_r0 := hF.hb_r0
            have N_r0_0 := hF.N_r0_0
            have N_r1_0 := hF.N_r1_0
            have vq13 := hF.vq13
            have Bx_r1 := hF.Bx_r1
            have hb_r1 := hF.hb_r1
            have N_r0_1 := hF.N_r0_1
            have N_r1_1 := hF.N_r1_1
            have hne_r0_1 := hF.hne_r0_1
            clear hF
            have e0 : l1 = false := hz0; subst e0
            clear hz0 hd
            have B_p0 := hS.1
            have B_p1 := hS.2
            clear hS
            (try simp only [Act.put, List.setIfInBounds_toArray, List.set_cons_zero, List.set_cons_succ])
            replace k3_1 := Lib.hid k3_1
            replace k7_1 := Lib.hid k7_1
            replace k7_3 := Lib.hid k7_3
            replace vq1 := Lib.hid vq1
            replace vq10 := Lib.hid vq10
            replace vq11 := Lib.hid vq11
            replace vq12 := Lib.hid vq12
            replace vq13 := Lib.hid vq13
            replace vq3 := Lib.hid vq3
            replace vq7 := Lib.hid vq7
            replace vq8 := Lib.hid vq8
            replace vq9 := Lib.hid vq9
            go_simp
            refine (toPlayer_o a0 p0 _ (z0.below (V_w3'.trans (U.mono V_w3'.size))) ht0).mono ?_
            rintro e wo ⟨z', F', rfl, n1, u⟩
            replace B_p0 := (B_p0).below u
            replace B_p1 := (B_p1).below u
            refine hK.out _ _ ⟨B_p0, B_p1⟩ ?_
            have hS2 := (⟨B_p0, B_p1⟩ : (fun W => Blk W (w.heap.size) 26 #[.int .i64 a0.P, .int .i64 a0.party, .int .i64 a0.input, .int .i64 a0.mask, .int .i64 a0.delta, .slice p0.sa p0.sn p0.sc, .slice p0.ka p0.kn p0.kc, .int .i64 a0.step, .slice p0.ha p0.hn p0.hc, .int .i64 a0.status, .int .i64 a0.out] ∧ Blk W (w.heap.size + 1) 26 #[.int .i64 a1.P, .int .i64 a1.party, .int .i64 a1.input, .int .i64 a1.mask, .int .i64 a1.delta, .slice p1.sa p1.sn p1.sc, .slice p1.ka p1.kn p1.kc, .int .i64 a1.step, .slice p1.ha p1.hn p1.hc, .int .i64 a1.status, .int .i64 a1.out]) wo)
            clear hK
            try simp only [List.setIfInBounds_toArray, List.set_cons_zero, List.set_cons_succ]
            exact IH.out _ _ _ hS2 ⟨⟨true, l3, l7, l12, l13, .agg #[.int .i64 a0.P, .int .i64 a0.party, .int .i64 a0.input, .int .i64 a0.mask, .int .i64 a0.delta, .slice z'.sa z'.sn z'.sc, .slice z'.ka z'.kn z'.kc, .int .i64 a0.step, .slice z'.ha z'.hn z'.hc, .int .i64 a0.status, .int .i64 a0.out], v3, v7, v12, v13, v8, v9, v10, v11, z', F', y1, F_y1, r0, F_r0, r1, F_r1, bx_r0, bx_r1⟩, rfl, by kernel_rfl, (show InvRunBentRF w3' a0 a1 a2 a3 a4 d0_0 d1_0 d2_0 true l3 l7 l12 l13 (.agg #[.int .i64 a0.P, .int .i64 a0.party, .int .i64 a0.input, .int .i64 a0.mask, .int .i64 a0.delta, .slice z'.sa z'.sn z'.sc, .slice z'.ka z'.kn z'.kc, .int .i64 a0.step, .slice z'.ha z'.hn z'.hc, .int .i64 a0.status, .int .i64 a0.out]) v3 v7 v12 v13 v8 v9 v10 v11 z' F' y1 F_y1 r0 F_r0 r1 F_r1 bx_r0 bx_r1 wo from ⟨((U).trans (u.mono (U).size)), (fun nd3 => (by cases k3_1.out nd3)), (fun nd7 => (by cases k7_1.out nd7)), (fun nd7 => (by cases k7_1.out nd7)), (fun nd1 => rfl), (fun nd1 => n1.lower U.size), (fun nd3 => (by cases k3_1.out nd3)), (fun nd3 => (by cases k3_1.out nd3)), (fun nd7 => (by cases k7_1.out nd7)), (fun nd7 => (by cases k7_1.out nd7)), (fun nd7 => (by cases k7_1.out nd7)), (fun nd7 => (by cases k7_1.out nd7)), (fun nd7 => (by cases k7_1.out nd7)), (fun nd7 => (by cases k7_1.out nd7)), (fun nd7 => (by cases k7_1.out nd7)), (fun nd7 => (by cases k7_1.out nd7)), (fun nd12 => (vq12.out nd12)), (fun nd12 => ((Bx_r0 nd12)).below u), (fun nd12 => ⟨((hb_r0 nd12)).1, Nat.lt_of_lt_of_le ((hb_r0 nd12)).2 u.size⟩), (fun nd7 nd12 => (by cases k7_1.out nd7)), (fun nd7 nd12 => (by cases k7_1.out nd7)), (fun nd13 => (vq13.out nd13)), (fun nd13 => ((Bx_r1 nd13)).below u), (fun nd13 => ⟨((hb_r1 nd13)).1, Nat.lt_of_lt_of_le ((hb_r1 nd13)).2 u.size⟩), (fun nd7 nd13 => (by cases k7_1.out nd7)), (fun nd7 nd13 => (by cases k7_1.out nd7)), (fun nd12 nd13 => (hne_r0_1 nd12 nd13))⟩)⟩
          refine StepsG.cons (o := { dst := some 40, op := _, type := _, pos := _, after := _, guard := _ }) rfl ?_ ?_
          · intro nG lJ aJ wi K IH hS hJ hz0 hd hK
            obtain ⟨dJ, hJ⟩ := hJ
            obtain ⟨e1, hJ⟩ := hJ
            obtain ⟨e2, hF⟩ := hJ
            subst e1
            subst e2
            cases dJ with | mk l1 l3 l7 l12 l13 v1 v3 v7 v12 v13 v8 v9 v10 v11 y0 F_y0 y1 F_y1 r0 F_r0 r1 F_r1 bx_r0 bx_r1 =>
            replace hF : InvRunBentRF w3' a0 a1 a2 a3 a4 d0_0 d1_0 d2_0 l1 l3 l7 l12 l13 v1 v3 v7 v12 v13 v8 v9 v10 v11 y0 F_y0 y1 F_y1 r0 F_r0 r1 F_r1 bx_r0 bx_r1 wi := hF
            have U := hF.U
            have k3_1 := hF.k3_1
            have k7_1 := hF.k7_1
            have k7_3 := hF.k7_3
            have vq1 := hF.vq1
            have oy0 := hF.oy0
            have vq3 := hF.vq3
            have oy1 := hF.oy1
            have vq7 := hF.vq7
            have vq8 := hF.vq8
            have vq9 := hF.vq9
            have vq10 := hF.vq10
            have vq11 := hF.vq11
            have or0 := hF.or0
            have or1 := hF.or1
            have dj_r0_r1 := hF.dj_r0_r1
            have vq12 := hF.vq12
            have Bx_r0 := hF.Bx_r0
            have hb_r0 := hF.hb_r0
            have N_r0_0 := hF.N_r0_0
            have N_r1_0 := hF.N_r1_0
            have vq13 := hF.vq13
            have Bx_r1 := hF.Bx_r1
            have hb_r1 := hF.hb_r1
            have N_r0_1 := hF.N_r0_1
            have N_r1_1 := hF.N_r1_1
            have hne_r0_1 := hF.hne_r0_1
            clear hF
            have e0 : l3 = false := hz0; subst e0
            have e1 : l1 = true := hd 1 (by kernel_rfl); subst e1
            clear hz0 hd
            have B_p0 := hS.1
            have B_p1 := hS.2
            clear hS
            (try simp only [Act.put, List.setIfInBounds_toArray, List.set_cons_zero, List.set_cons_succ])
            replace k3_1 := Lib.hid k3_1
            replace k7_1 := Lib.hid k7_1
            replace k7_3 := Lib.hid k7_3
            replace vq1 := Lib.hid vq1
            replace vq10 := Lib.hid vq10
            replace vq11 := Lib.hid vq11
            replace vq12 := Lib.hid vq12
            replace vq13 := Lib.hid vq13
            replace vq3 := Lib.hid vq3
            replace vq7 := Lib.hid vq7
            replace vq8 := Lib.hid vq8
            replace vq9 := Lib.hid vq9
            go_simp
            refine (toPlayer_o a1 p1 _ (z1.below (V_w3'.trans (U.mono V_w3'.size))) ht1).mono ?_
            rintro e wo ⟨z', F', rfl, n1, u⟩
            replace B_p0 := (B_p0).below u
            replace B_p1 := (B_p1).below u
            refine hK.out _ _ ⟨B_p0, B_p1⟩ ?_
            have hS2 := (⟨B_p0, B_p1⟩ : (fun W => Blk W (w.heap.size) 26 #[.int .i64 a0.P, .int .i64 a0.party, .int .i64 a0.input, .int .i64 a0.mask, .int .i64 a0.delta, .slice p0.sa p0.sn p0.sc, .slice p0.ka p0.kn p0.kc, .int .i64 a0.step, .slice p0.ha p0.hn p0.hc, .int .i64 a0.status, .int .i64 a0.out] ∧ Blk W (w.heap.size + 1) 26 #[.int .i64 a1.P, .int .i64 a1.party, .int .i64 a1.input, .int .i64 a1.mask, .int .i64 a1.delta, .slice p1.sa p1.sn p1.sc, .slice p1.ka p1.kn p1.kc, .int .i64 a1.step, .slice p1.ha p1.hn p1.hc, .int .i64 a1.status, .int .i64 a1.out]) wo)
            clear hK
            try simp only [List.setIfInBounds_toArray, List.set_cons_zero, List.set_cons_succ]
            exact IH.out _ _ _ hS2 ⟨⟨true, true, l7, l12, l13, v1, .agg #[.int .i64 a1.P, .int .i64 a1.party, .int .i64 a1.input, .int .i64 a1.mask, .int .i64 a1.delta, .slice z'.sa z'.sn z'.sc, .slice z'.ka z'.kn z'.kc, .int .i64 a1.step, .slice z'.ha z'.hn z'.hc, .int .i64 a1.status, .int .i64 a1.out], v7, v12, v13, v8, v9, v10, v11, y0, F_y0, z', F', r0, F_r0, r1, F_r1, bx_r0, bx_r1⟩, rfl, by kernel_rfl, (show InvRunBentRF w3' a0 a1 a2 a3 a4 d0_0 d1_0 d2_0 true true l7 l12 l13 v1 (.agg #[.int .i64 a1.P, .int .i64 a1.party, .int .i64 a1.input, .int .i64 a1.mask, .int .i64 a1.delta, .slice z'.sa z'.sn z'.sc, .slice z'.ka z'.kn z'.kc, .int .i64 a1.step, .slice z'.ha z'.hn z'.hc, .int .i64 a1.status, .int .i64 a1.out]) v7 v12 v13 v8 v9 v10 v11 y0 F_y0 z' F' r0 F_r0 r1 F_r1 bx_r0 bx_r1 wo from ⟨((U).trans (u.mono (U).size)), (fun nd3 => rfl), (fun nd7 => (by cases k7_3.out nd7)), (fun nd7 => (by cases k7_3.out nd7)), (fun nd1 => (vq1.out nd1)), (fun nd1 => ((oy0 nd1)).below u), (fun nd3 => rfl), (fun nd3 => n1.lower U.size), (fun nd7 => (by cases k7_3.out nd7)), (fun nd7 => (by cases k7_3.out nd7)), (fun nd7 => (by cases k7_3.out nd7)), (fun nd7 => (by cases k7_3.out nd7)), (fun nd7 => (by cases k7_3.out nd7)), (fun nd7 => (by cases k7_3.out nd7)), (fun nd7 => (by cases k7_3.out nd7)), (fun nd7 => (by cases k7_3.out nd7)), (fun nd12 => (vq12.out nd12)), (fun nd12 => ((Bx_r0 nd12)).below u), (fun nd12 => ⟨((hb_r0 nd12)).1, Nat.lt_of_lt_of_le ((hb_r0 nd12)).2 u.size⟩), (fun nd7 nd12 => (by cases k7_3.out nd7)), (fun nd7 nd12 => (by cases k7_3.out nd7)), (fun nd13 => (vq13.out nd13)), (fun nd13 => ((Bx_r1 nd13)).below u), (fun nd13 => ⟨((hb_r1 nd13)).1, Nat.lt_of_lt_of_le ((hb_r1 nd13)).2 u.size⟩), (fun nd7 nd13 => (by cases k7_3.out nd7)), (fun nd7 nd13 => (by cases k7_3.out nd7)), (fun nd12 nd13 => (hne_r0_1 nd12 nd13))⟩)⟩
          refine StepsG.cons (o := { dst := some 44, op := _, type := _, pos := _, after := _, guard := _ }) rfl ?_ ?_
          · intro nG lJ aJ wi K IH hS hJ hz0 hd hK
            obtain ⟨dJ, hJ⟩ := hJ
            obtain ⟨e1, hJ⟩ := hJ
            obtain ⟨e2, hF⟩ := hJ
            subst e1
            subst e2
            cases dJ with | mk l1 l3 l7 l12 l13 v1 v3 v7 v12 v13 v8 v9 v10 v11 y0 F_y0 y1 F_y1 r0 F_r0 r1 F_r1 bx_r0 bx_r1 =>
            replace hF : InvRunBentRF w3' a0 a1 a2 a3 a4 d0_0 d1_0 d2_0 l1 l3 l7 l12 l13 v1 v3 v7 v12 v13 v8 v9 v10 v11 y0 F_y0 y1 F_y1 r0 F_r0 r1 F_r1 bx_r0 bx_r1 wi := hF
            have U := hF.U
            have k3_1 := hF.k3_1
            have k7_1 := hF.k7_1
            have k7_3 := hF.k7_3
            have vq1 := hF.vq1
            have oy0 := hF.oy0
            have vq3 := hF.vq3
            have oy1 := hF.oy1
            have vq7 := hF.vq7
            have vq8 := hF.vq8
            have vq9 := hF.vq9
            have vq10 := hF.vq10
            have vq11 := hF.vq11
            have or0 := hF.or0
            have or1 := hF.or1
            have dj_r0_r1 := hF.dj_r0_r1
            have vq12 := hF.vq12
            have Bx_r0 := hF.Bx_r0
            have hb_r0 := hF.hb_r0
            have N_r0_0 := hF.N_r0_0
            have N_r1_0 := hF.N_r1_0
            have vq13 := hF.vq13
            have Bx_r1 := hF.Bx_r1
            have hb_r1 := hF.hb_r1
            have N_r0_1 := hF.N_r0_1
            have N_r1_1 := hF.N_r1_1
            have hne_r0_1 := hF.hne_r0_1
            clear hF
            have e0 : l7 = false := hz0; subst e0
            have e1 : l1 = true := hd 1 (by kernel_rfl); subst e1
            have e3 : l3 = true := hd 3 (by kernel_rfl); subst e3
            clear hz0 hd
            have B_p0 := hS.1
            have B_p1 := hS.2
            clear hS
            (try simp only [Act.put, List.setIfInBounds_toArray, List.set_cons_zero, List.set_cons_succ])
            have g' := vq1 rfl; subst g'
            have g' := vq3 rfl; subst g'
            replace k3_1 := Lib.hid k3_1
            replace k7_1 := Lib.hid k7_1
            replace k7_3 := Lib.hid k7_3
            replace vq1 := Lib.hid vq1
            replace vq10 := Lib.hid vq10
            replace vq11 := Lib.hid vq11
            replace vq12 := Lib.hid vq12
            replace vq13 := Lib.hid vq13
            replace vq3 := Lib.hid vq3
            replace vq7 := Lib.hid vq7
            replace vq8 := Lib.hid vq8
            replace vq9 := Lib.hid vq9
            go_simp
            refine (CS.out _ _ _ (oy0 rfl).rd (oy1 rfl).rd (LX.out.below (V_w3'.trans (U.mono V_w3'.size)))).mono ?_
            rintro e wo ⟨r0', F_r0', r1', F_r1', rfl, n0, n1, dj_r0_r1', u⟩
            replace B_p0 := (B_p0).below u
            replace B_p1 := (B_p1).below u
            refine hK.out _ _ ⟨B_p0, B_p1⟩ ?_
            have hS2 := (⟨B_p0, B_p1⟩ : (fun W => Blk W (w.heap.size) 26 #[.int .i64 a0.P, .int .i64 a0.party, .int .i64 a0.input, .int .i64 a0.mask, .int .i64 a0.delta, .slice p0.sa p0.sn p0.sc, .slice p0.ka p0.kn p0.kc, .int .i64 a0.step, .slice p0.ha p0.hn p0.hc, .int .i64 a0.status, .int .i64 a0.out] ∧ Blk W (w.heap.size + 1) 26 #[.int .i64 a1.P, .int .i64 a1.party, .int .i64 a1.input, .int .i64 a1.mask, .int .i64 a1.delta, .slice p1.sa p1.sn p1.sc, .slice p1.ka p1.kn p1.kc, .int .i64 a1.step, .slice p1.ha p1.hn p1.hc, .int .i64 a1.status, .int .i64 a1.out]) wo)
            clear hK
            try simp only [List.setIfInBounds_toArray, List.set_cons_zero, List.set_cons_succ]
            refine GoI.take (i := 8) (oi := { dst := some 36, op := _, type := _, pos := _, after := _, guard := _ }) (v := .tuple #[.agg #[.int .i64 d0_0.P, .int .i64 d0_0.party, .int .i64 d0_0.input, .int .i64 d0_0.mask, .int .i64 d0_0.delta, .slice r0'.sa r0'.sn r0'.sc, .slice r0'.ka r0'.kn r0'.kc, .int .i64 d0_0.step, .slice r0'.ha r0'.hn r0'.hc, .int .i64 d0_0.status, .int .i64 d0_0.out], .agg #[.int .i64 d1_0.P, .int .i64 d1_0.party, .int .i64 d1_0.input, .int .i64 d1_0.mask, .int .i64 d1_0.delta, .slice r1'.sa r1'.sn r1'.sc, .slice r1'.ka r1'.kn r1'.kc, .int .i64 d1_0.step, .slice r1'.ha r1'.hn r1'.hc, .int .i64 d1_0.status, .int .i64 d1_0.out], .bool d2_0]) rfl (by kernel_rfl) (by cases l12 <;> cases l13 <;> kernel_rfl) (by cases l12 <;> cases l13 <;> kernel_rfl) (fun _ _ _ h => h) (Or.inl ⟨by rfl, by intro w _; first | (go_simp; done) | (go_simp; with_reducible rfl) | (with_reducible rfl)⟩) hS2 ?_
            (try simp only [Act.put, List.setIfInBounds_toArray, List.set_cons_zero, List.set_cons_succ])
            refine GoI.take (i := 9) (oi := { dst := some 45, op := _, type := _, pos := _, after := _, guard := _ }) (v := .agg #[.int .i64 d0_0.P, .int .i64 d0_0.party, .int .i64 d0_0.input, .int .i64 d0_0.mask, .int .i64 d0_0.delta, .slice r0'.sa r0'.sn r0'.sc, .slice r0'.ka r0'.kn r0'.kc, .int .i64 d0_0.step, .slice r0'.ha r0'.hn r0'.hc, .int .i64 d0_0.status, .int .i64 d0_0.out]) rfl (by kernel_rfl) (by cases l12 <;> cases l13 <;> kernel_rfl) (by cases l12 <;> cases l13 <;> kernel_rfl) (fun _ _ _ h => h) (Or.inl ⟨by rfl, by intro w _; first | (go_simp; done) | (go_simp; with_reducible rfl) | (with_reducible rfl)⟩) hS2 ?_
            (try simp only [Act.put, List.setIfInBounds_toArray, List.set_cons_zero, List.set_cons_succ])
            refine GoI.take (i := 10) (oi := { dst := some 46, op := _, type := _, pos := _, after := _, guard := _ }) (v := .agg #[.int .i64 d1_0.P, .int .i64 d1_0.party, .int .i64 d1_0.input, .int .i64 d1_0.mask, .int .i64 d1_0.delta, .slice r1'.sa r1'.sn r1'.sc, .slice r1'.ka r1'.kn r1'.kc, .int .i64 d1_0.step, .slice r1'.ha r1'.hn r1'.hc, .int .i64 d1_0.status, .int .i64 d1_0.out]) rfl (by kernel_rfl) (by cases l12 <;> cases l13 <;> kernel_rfl) (by cases l12 <;> cases l13 <;> kernel_rfl) (fun _ _ _ h => h) (Or.inl ⟨by rfl, by intro w _; first | (go_simp; done) | (go_simp; with_reducible rfl) | (with_reducible rfl)⟩) hS2 ?_
            (try simp only [Act.put, List.setIfInBounds_toArray, List.set_cons_zero, List.set_cons_succ])
            refine GoI.take (i := 11) (oi := { dst := some 47, op := _, type := _, pos := _, after := _, guard := _ }) (v := .bool d2_0) rfl (by kernel_rfl) (by cases l12 <;> cases l13 <;> kernel_rfl) (by cases l12 <;> cases l13 <;> kernel_rfl) (fun _ _ _ h => h) (Or.inl ⟨by rfl, by intro w _; first | (go_simp; done) | (go_simp; with_reducible rfl) | (with_reducible rfl)⟩) hS2 ?_
            (try simp only [Act.put, List.setIfInBounds_toArray, List.set_cons_zero, List.set_cons_succ])
            exact IH.out _ _ _ hS2 ⟨⟨true, true, true, l12, l13, .agg #[.int .i64 a0.P, .int .i64 a0.party, .int .i64 a0.input, .int .i64 a0.mask, .int .i64 a0.delta, .slice y0.sa y0.sn y0.sc, .slice y0.ka y0.kn y0.kc, .int .i64 a0.step, .slice y0.ha y0.hn y0.hc, .int .i64 a0.status, .int .i64 a0.out], .agg #[.int .i64 a1.P, .int .i64 a1.party, .int .i64 a1.input, .int .i64 a1.mask, .int .i64 a1.delta, .slice y1.sa y1.sn y1.sc, .slice y1.ka y1.kn y1.kc, .int .i64 a1.step, .slice y1.ha y1.hn y1.hc, .int .i64 a1.status, .int .i64 a1.out], .tuple #[.agg #[.int .i64 d0_0.P, .int .i64 d0_0.party, .int .i64 d0_0.input, .int .i64 d0_0.mask, .int .i64 d0_0.delta, .slice r0'.sa r0'.sn r0'.sc, .slice r0'.ka r0'.kn r0'.kc, .int .i64 d0_0.step, .slice r0'.ha r0'.hn r0'.hc, .int .i64 d0_0.status, .int .i64 d0_0.out], .agg #[.int .i64 d1_0.P, .int .i64 d1_0.party, .int .i64 d1_0.input, .int .i64 d1_0.mask, .int .i64 d1_0.delta, .slice r1'.sa r1'.sn r1'.sc, .slice r1'.ka r1'.kn r1'.kc, .int .i64 d1_0.step, .slice r1'.ha r1'.hn r1'.hc, .int .i64 d1_0.status, .int .i64 d1_0.out], .bool d2_0], v12, v13, .tuple #[.agg #[.int .i64 d0_0.P, .int .i64 d0_0.party, .int .i64 d0_0.input, .int .i64 d0_0.mask, .int .i64 d0_0.delta, .slice r0'.sa r0'.sn r0'.sc, .slice r0'.ka r0'.kn r0'.kc, .int .i64 d0_0.step, .slice r0'.ha r0'.hn r0'.hc, .int .i64 d0_0.status, .int .i64 d0_0.out], .agg #[.int .i64 d1_0.P, .int .i64 d1_0.party, .int .i64 d1_0.input, .int .i64 d1_0.mask, .int .i64 d1_0.delta, .slice r1'.sa r1'.sn r1'.sc, .slice r1'.ka r1'.kn r1'.kc, .int .i64 d1_0.step, .slice r1'.ha r1'.hn r1'.hc, .int .i64 d1_0.status, .int .i64 d1_0.out], .bool d2_0], .agg #[.int .i64 d0_0.P, .int .i64 d0_0.party, .int .i64 d0_0.input, .int .i64 d0_0.mask, .int .i64 d0_0.delta, .slice r0'.sa r0'.sn r0'.sc, .slice r0'.ka r0'.kn r0'.kc, .int .i64 d0_0.step, .slice r0'.ha r0'.hn r0'.hc, .int .i64 d0_0.status, .int .i64 d0_0.out], .agg #[.int .i64 d1_0.P, .int .i64 d1_0.party, .int .i64 d1_0.input, .int .i64 d1_0.mask, .int .i64 d1_0.delta, .slice r1'.sa r1'.sn r1'.sc, .slice r1'.ka r1'.kn r1'.kc, .int .i64 d1_0.step, .slice r1'.ha r1'.hn r1'.hc, .int .i64 d1_0.status, .int .i64 d1_0.out], .bool d2_0, y0, F_y0, y1, F_y1, r0', F_r0', r1', F_r1', bx_r0, bx_r1⟩, rfl, by kernel_rfl, (show InvRunBentRF w3' a0 a1 a2 a3 a4 d0_0 d1_0 d2_0 true true true l12 l13 (.agg #[.int .i64 a0.P, .int .i64 a0.party, .int .i64 a0.input, .int .i64 a0.mask, .int .i64 a0.delta, .slice y0.sa y0.sn y0.sc, .slice y0.ka y0.kn y0.kc, .int .i64 a0.step, .slice y0.ha y0.hn y0.hc, .int .i64 a0.status, .int .i64 a0.out]) (.agg #[.int .i64 a1.P, .int .i64 a1.party, .int .i64 a1.input, .int .i64 a1.mask, .int .i64 a1.delta, .slice y1.sa y1.sn y1.sc, .slice y1.ka y1.kn y1.kc, .int .i64 a1.step, .slice y1.ha y1.hn y1.hc, .int .i64 a1.status, .int .i64 a1.out]) (.tuple #[.agg #[.int .i64 d0_0.P, .int .i64 d0_0.party, .int .i64 d0_0.input, .int .i64 d0_0.mask, .int .i64 d0_0.delta, .slice r0'.sa r0'.sn r0'.sc, .slice r0'.ka r0'.kn r0'.kc, .int .i64 d0_0.step, .slice r0'.ha r0'.hn r0'.hc, .int .i64 d0_0.status, .int .i64 d0_0.out], .agg #[.int .i64 d1_0.P, .int .i64 d1_0.party, .int .i64 d1_0.input, .int .i64 d1_0.mask, .int .i64 d1_0.delta, .slice r1'.sa r1'.sn r1'.sc, .slice r1'.ka r1'.kn r1'.kc, .int .i64 d1_0.step, .slice r1'.ha r1'.hn r1'.hc, .int .i64 d1_0.status, .int .i64 d1_0.out], .bool d2_0]) v12 v13 (.tuple #[.agg #[.int .i64 d0_0.P, .int .i64 d0_0.party, .int .i64 d0_0.input, .int .i64 d0_0.mask, .int .i64 d0_0.delta, .slice r0'.sa r0'.sn r0'.sc, .slice r0'.ka r0'.kn r0'.kc, .int .i64 d0_0.step, .slice r0'.ha r0'.hn r0'.hc, .int .i64 d0_0.status, .int .i64 d0_0.out], .agg #[.int .i64 d1_0.P, .int .i64 d1_0.party, .int .i64 d1_0.input, .int .i64 d1_0.mask, .int .i64 d1_0.delta, .slice r1'.sa r1'.sn r1'.sc, .slice r1'.ka r1'.kn r1'.kc, .int .i64 d1_0.step, .slice r1'.ha r1'.hn r1'.hc, .int .i64 d1_0.status, .int .i64 d1_0.out], .bool d2_0]) (.agg #[.int .i64 d0_0.P, .int .i64 d0_0.party, .int .i64 d0_0.input, .int .i64 d0_0.mask, .int .i64 d0_0.delta, .slice r0'.sa r0'.sn r0'.sc, .slice r0'.ka r0'.kn r0'.kc, .int .i64 d0_0.step, .slice r0'.ha r0'.hn r0'.hc, .int .i64 d0_0.status, .int .i64 d0_0.out]) (.agg #[.int .i64 d1_0.P, .int .i64 d1_0.party, .int .i64 d1_0.input, .int .i64 d1_0.mask, .int .i64 d1_0.delta, .slice r1'.sa r1'.sn r1'.sc, .slice r1'.ka r1'.kn r1'.kc, .int .i64 d1_0.step, .slice r1'.ha r1'.hn r1'.hc, .int .i64 d1_0.status, .int .i64 d1_0.out]) (.bool d2_0) y0 F_y0 y1 F_y1 r0' F_r0' r1' F_r1' bx_r0 bx_r1 wo from ⟨((U).trans (u.mono (U).size)), (fun nd3 => (k3_1.out nd3)), (fun nd7 => rfl), (fun nd7 => rfl), (fun nd1 => (vq1.out nd1)), (fun nd1 => ((oy0 nd1)).below u), (fun nd3 => (vq3.out nd3)), (fun nd3 => ((oy1 nd3)).below u), (fun nd7 => rfl), (fun nd7 => rfl), (fun nd7 => rfl), (fun nd7 => rfl), (fun nd7 => rfl), (fun nd7 => n0.lower U.size), (fun nd7 => n1.lower U.size), (fun nd7 => dj_r0_r1'), (fun nd12 => (vq12.out nd12)), (fun nd12 => ((Bx_r0 nd12)).below u), (fun nd12 => ⟨((hb_r0 nd12)).1, Nat.lt_of_lt_of_le ((hb_r0 nd12)).2 u.size⟩), (fun nd7 nd12 => fun k hk => by have := n0.feet k hk; have := (hb_r0 nd12).2; omega), (fun nd7 nd12 => fun k hk => by have := n1.feet k hk; have := (hb_r0 nd12).2; omega), (fun nd13 => (vq13.out nd13)), (fun nd13 => ((Bx_r1 nd13)).below u), (fun nd13 => ⟨((hb_r1 nd13)).1, Nat.lt_of_lt_of_le ((hb_r1 nd13)).2 u.size⟩), (fun nd7 nd13 => fun k hk => by have := n0.feet k hk; have := (hb_r1 nd13).2; omega), (fun nd7 nd13 => fun k hk => by have := n1.feet k hk; have := (hb_r1 nd13).2; omega), (fun nd12 nd13 => (hne_r0_1 nd12 nd13))⟩)⟩
          refine StepsG.cons (o := { dst := some 12, op := _, type := _, pos := _, after := _, guard := _ }) rfl ?_ ?_
          · intro nG lJ aJ wi K IH hS hJ hz0 hd hK
            obtain ⟨dJ, hJ⟩ := hJ
            obtain ⟨e1, hJ⟩ := hJ
            obtain ⟨e2, hF⟩ := hJ
            subst e1
            subst e2
            cases dJ with | mk l1 l3 l7 l12 l13 v1 v3 v7 v12 v13 v8 v9 v10 v11 y0 F_y0 y1 F_y1 r0 F_r0 r1 F_r1 bx_r0 bx_r1 =>
            replace hF : InvRunBentRF w3' a0 a1 a2 a3 a4 d0_0 d1_0 d2_0 l1 l3 l7 l12 l13 v1 v3 v7 v12 v13 v8 v9 v10 v11 y0 F_y0 y1 F_y1 r0 F_r0 r1 F_r1 bx_r0 bx_r1 wi := hF
            have U := hF.U
            have k3_1 := hF.k3_1
            have k7_1 := hF.k7_1
            have k7_3 := hF.k7_3
            have vq1 := hF.vq1
            have oy0 := hF.oy0
            have vq3 := hF.vq3
            have oy1 := hF.oy1
            have vq7 := hF.vq7
            have vq8 := hF.vq8
            have vq9 := hF.vq9
            have vq10 := hF.vq10
            have vq11 := hF.vq11
            have or0 := hF.or0
            have or1 := hF.or1
            have dj_r0_r1 := hF.dj_r0_r1
            have vq12 := hF.vq12
            have Bx_r0 := hF.Bx_r0
            have hb_r0 := hF.hb_r0
            have N_r0_0 := hF.N_r0_0
            have N_r1_0 := hF.N_r1_0
            have vq13 := hF.vq13
            have Bx_r1 := hF.Bx_r1
            have hb_r1 := hF.hb_r1
            have N_r0_1 := hF.N_r0_1
            have N_r1_1 := hF.N_r1_1
            have hne_r0_1 := hF.hne_r0_1
            clear hF
            have e0 : l12 = false := hz0; subst e0
            clear hz0 hd
            have B_p0 := hS.1
            have B_p1 := hS.2
            clear hS
            (try simp only [Act.put, List.setIfInBounds_toArray, List.set_cons_zero, List.set_cons_succ])
            replace k3_1 := Lib.hid k3_1
            replace k7_1 := Lib.hid k7_1
            replace k7_3 := Lib.hid k7_3
            replace vq1 := Lib.hid vq1
            replace vq10 := Lib.hid vq10
            replace vq11 := Lib.hid vq11
            replace vq12 := Lib.hid vq12
            replace vq13 := Lib.hid vq13
            replace vq3 := Lib.hid vq3
            replace vq7 := Lib.hid vq7
            replace vq8 := Lib.hid vq8
            replace vq9 := Lib.hid vq9
            go_simp
            refine Exists.elim (Blk.new_ wi rfl 31 #[.int .i64 0, .int .i64 0, .int .i64 0, .int .i64 0, .int .i64 0, .slice none 0 0, .slice none 0 0, .int .i64 0, .slice none 0 0, .int .i64 0, .int .i64 0]) (fun wo q => ?_)
            rw [q.1]
            have B_r0 := q.2.1; have u := q.2.2.2; have ha : wi.heap.size < wo.heap.size := Nat.le_of_eq q.2.2.1.symm; clear q
            replace B_p0 := (B_p0).below u
            replace B_p1 := (B_p1).below u
            refine hK.out _ _ ⟨B_p0, B_p1⟩ ?_
            have hS2 := (⟨B_p0, B_p1⟩ : (fun W => Blk W (w.heap.size) 26 #[.int .i64 a0.P, .int .i64 a0.party, .int .i64 a0.input, .int .i64 a0.mask, .int .i64 a0.delta, .slice p0.sa p0.sn p0.sc, .slice p0.ka p0.kn p0.kc, .int .i64 a0.step, .slice p0.ha p0.hn p0.hc, .int .i64 a0.status, .int .i64 a0.out] ∧ Blk W (w.heap.size + 1) 26 #[.int .i64 a1.P, .int .i64 a1.party, .int .i64 a1.input, .int .i64 a1.mask, .int .i64 a1.delta, .slice p1.sa p1.sn p1.sc, .slice p1.ka p1.kn p1.kc, .int .i64 a1.step, .slice p1.ha p1.hn p1.hc, .int .i64 a1.status, .int .i64 a1.out]) wo)
            clear hK
            try simp only [List.setIfInBounds_toArray, List.set_cons_zero, List.set_cons_succ]
            exact IH.out _ _ _ hS2 ⟨⟨l1, l3, l7, true, l13, v1, v3, v7, .pointer (some ⟨wi.heap.size, 0, none⟩), v13, v8, v9, v10, v11, y0, F_y0, y1, F_y1, r0, F_r0, r1, F_r1, wi.heap.size, bx_r1⟩, rfl, by kernel_rfl, (show InvRunBentRF w3' a0 a1 a2 a3 a4 d0_0 d1_0 d2_0 l1 l3 l7 true l13 v1 v3 v7 (.pointer (some ⟨wi.heap.size, 0, none⟩)) v13 v8 v9 v10 v11 y0 F_y0 y1 F_y1 r0 F_r0 r1 F_r1 wi.heap.size bx_r1 wo from ⟨((U).trans (u.mono (U).size)), (fun nd3 => (k3_1.out nd3)), (fun nd7 => (k7_1.out nd7)), (fun nd7 => (k7_3.out nd7)), (fun nd1 => (vq1.out nd1)), (fun nd1 => ((oy0 nd1)).below u), (fun nd3 => (vq3.out nd3)), (fun nd3 => ((oy1 nd3)).below u), (fun nd7 => (vq7.out nd7)), (fun nd7 => (vq8.out nd7)), (fun nd7 => (vq9.out nd7)), (fun nd7 => (vq10.out nd7)), (fun nd7 => (vq11.out nd7)), (fun nd7 => ((or0 nd7)).below u), (fun nd7 => ((or1 nd7)).below u), (fun nd7 => (dj_r0_r1 nd7)), (fun nd12 => rfl), (fun nd12 => B_r0), (fun nd12 => ⟨U.size, ha⟩), (fun nd7 nd12 => fun k hk => by have := (or0 nd7).feet k hk; omega), (fun nd7 nd12 => fun k hk => by have := (or1 nd7).feet k hk; omega), (fun nd13 => (vq13.out nd13)), (fun nd13 => ((Bx_r1 nd13)).below u), (fun nd13 => ⟨((hb_r1 nd13)).1, Nat.lt_of_lt_of_le ((hb_r1 nd13)).2 u.size⟩), (fun nd7 nd13 => (N_r0_1 nd7 nd13)), (fun nd7 nd13 => (N_r1_1 nd7 nd13)), (fun nd12 nd13 => by have := (hb_r1 nd13).2; omega)⟩)⟩
          refine StepsG.cons (o := { dst := some 13, op := _, type := _, pos := _, after := _, guard := _ }) rfl ?_ ?_
          · intro nG lJ aJ wi K IH hS hJ hz0 hd hK
            obtain ⟨dJ, hJ⟩ := hJ
            obtain ⟨e1, hJ⟩ := hJ
            obtain ⟨e2, hF⟩ := hJ
            subst e1
            subst e2
            cases dJ with | mk l1 l3 l7 l12 l13 v1 v3 v7 v12 v13 v8 v9 v10 v11 y0 F_y0 y1 F_y1 r0 F_r0 r1 F_r1 bx_r0 bx_r1 =>
            replace hF : InvRunBentRF w3' a0 a1 a2 a3 a4 d0_0 d1_0 d2_0 l1 l3 l7 l12 l13 v1 v3 v7 v12 v13 v8 v9 v10 v11 y0 F_y0 y1 F_y1 r0 F_r0 r1 F_r1 bx_r0 bx_r1 wi := hF
            have U := hF.U
            have k3_1 := hF.k3_1
            have k7_1 := hF.k7_1
            have k7_3 := hF.k7_3
            have vq1 := hF.vq1
            have oy0 := hF.oy0
            have vq3 := hF.vq3
            have oy1 := hF.oy1
            have vq7 := hF.vq7
            have vq8 := hF.vq8
            have vq9 := hF.vq9
            have vq10 := hF.vq10
            have vq11 := hF.vq11
            have or0 := hF.or0
            have or1 := hF.or1
            have dj_r0_r1 := hF.dj_r0_r1
            have vq12 := hF.vq12
            have Bx_r0 := hF.Bx_r0
            have hb_r0 := hF.hb_r0
            have N_r0_0 := hF.N_r0_0
            have N_r1_0 := hF.N_r1_0
            have vq13 := hF.vq13
            have Bx_r1 := hF.Bx_r1
            have hb_r1 := hF.hb_r1
            have N_r0_1 := hF.N_r0_1
            have N_r1_1 := hF.N_r1_1
            have hne_r0_1 := hF.hne_r0_1
            clear hF
            have e0 : l13 = false := hz0; subst e0
            clear hz0 hd
            have B_p0 := hS.1
            have B_p1 := hS.2
            clear hS
            (try simp only [Act.put, List.setIfInBounds_toArray, List.set_cons_zero, List.set_cons_succ])
            replace k3_1 := Lib.hid k3_1
            replace k7_1 := Lib.hid k7_1
            replace k7_3 := Lib.hid k7_3
            replace vq1 := Lib.hid vq1
            replace vq10 := Lib.hid vq10
            replace vq11 := Lib.hid vq11
            replace vq12 := Lib.hid vq12
            replace vq13 := Lib.hid vq13
            replace vq3 := Lib.hid vq3
            replace vq7 := Lib.hid vq7
            replace vq8 := Lib.hid vq8
            replace vq9 := Lib.hid vq9
            go_simp
            refine Exists.elim (Blk.new_ wi rfl 31 #[.int .i64 0, .int .i64 0, .int .i64 0, .int .i64 0, .int .i64 0, .slice none 0 0, .slice none 0 0, .int .i64 0, .slice none 0 0, .int .i64 0, .int .i64 0]) (fun wo q => ?_)
            rw [q.1]
            have B_r1 := q.2.1; have u := q.2.2.2; have ha : wi.heap.size < wo.heap.size := Nat.le_of_eq q.2.2.1.symm; clear q
            replace B_p0 := (B_p0).below u
            replace B_p1 := (B_p1).below u
            refine hK.out _ _ ⟨B_p0, B_p1⟩ ?_
            have hS2 := (⟨B_p0, B_p1⟩ : (fun W => Blk W (w.heap.size) 26 #[.int .i64 a0.P, .int .i64 a0.party, .int .i64 a0.input, .int .i64 a0.mask, .int .i64 a0.delta, .slice p0.sa p0.sn p0.sc, .slice p0.ka p0.kn p0.kc, .int .i64 a0.step, .slice p0.ha p0.hn p0.hc, .int .i64 a0.status, .int .i64 a0.out] ∧ Blk W (w.heap.size + 1) 26 #[.int .i64 a1.P, .int .i64 a1.party, .int .i64 a1.input, .int .i64 a1.mask, .int .i64 a1.delta, .slice p1.sa p1.sn p1.sc, .slice p1.ka p1.kn p1.kc, .int .i64 a1.step, .slice p1.ha p1.hn p1.hc, .int .i64 a1.status, .int .i64 a1.out]) wo)
            clear hK
            try simp only [List.setIfInBounds_toArray, List.set_cons_zero, List.set_cons_succ]
            exact IH.out _ _ _ hS2 ⟨⟨l1, l3, l7, l12, true, v1, v3, v7, v12, .pointer (some ⟨wi.heap.size, 0, none⟩), v8, v9, v10, v11, y0, F_y0, y1, F_y1, r0, F_r0, r1, F_r1, bx_r0, wi.heap.size⟩, rfl, by kernel_rfl, (show InvRunBentRF w3' a0 a1 a2 a3 a4 d0_0 d1_0 d2_0 l1 l3 l7 l12 true v1 v3 v7 v12 (.pointer (some ⟨wi.heap.size, 0, none⟩)) v8 v9 v10 v11 y0 F_y0 y1 F_y1 r0 F_r0 r1 F_r1 bx_r0 wi.heap.size wo from ⟨((U).trans (u.mono (U).size)), (fun nd3 => (k3_1.out nd3)), (fun nd7 => (k7_1.out nd7)), (fun nd7 => (k7_3.out nd7)), (fun nd1 => (vq1.out nd1)), (fun nd1 => ((oy0 nd1)).below u), (fun nd3 => (vq3.out nd3)), (fun nd3 => ((oy1 nd3)).below u), (fun nd7 => (vq7.out nd7)), (fun nd7 => (vq8.out nd7)), (fun nd7 => (vq9.out nd7)), (fun nd7 => (vq10.out nd7)), (fun nd7 => (vq11.out nd7)), (fun nd7 => ((or0 nd7)).below u), (fun nd7 => ((or1 nd7)).below u), (fun nd7 => (dj_r0_r1 nd7)), (fun nd12 => (vq12.out nd12)), (fun nd12 => ((Bx_r0 nd12)).below u), (fun nd12 => ⟨((hb_r0 nd12)).1, Nat.lt_of_lt_of_le ((hb_r0 nd12)).2 u.size⟩), (fun nd7 nd12 => (N_r0_0 nd7 nd12)), (fun nd7 nd12 => (N_r1_0 nd7 nd12)), (fun nd13 => rfl), (fun nd13 => B_r1), (fun nd13 => ⟨U.size, ha⟩), (fun nd7 nd13 => fun k hk => by have := (or0 nd7).feet k hk; omega), (fun nd7 nd13 => fun k hk => by have := (or1 nd7).feet k hk; omega), (fun nd12 nd13 => by have := (hb_r0 nd12).2; omega)⟩)⟩
          exact StepsG.nil
        case he =>
          intro aJ wc hS hJ
          obtain ⟨dJ, hJ⟩ := hJ
          obtain ⟨hl, hJ⟩ := hJ
          obtain ⟨e2, hF⟩ := hJ
          subst e2
          cases dJ with | mk l1 l3 l7 l12 l13 v1 v3 v7 v12 v13 v8 v9 v10 v11 y0 F_y0 y1 F_y1 r0 F_r0 r1 F_r1 bx_r0 bx_r1 =>
          replace hF : InvRunBentRF w3' a0 a1 a2 a3 a4 d0_0 d1_0 d2_0 l1 l3 l7 l12 l13 v1 v3 v7 v12 v13 v8 v9 v10 v11 y0 F_y0 y1 F_y1 r0 F_r0 r1 F_r1 bx_r0 bx_r1 wc := hF
          have U := hF.U
          have k3_1 := hF.k3_1
          have k7_1 := hF.k7_1
          have k7_3 := hF.k7_3
          have vq1 := hF.vq1
          have oy0 := hF.oy0
          have vq3 := hF.vq3
          have oy1 := hF.oy1
          have vq7 := hF.vq7
          have vq8 := hF.vq8
          have vq9 := hF.vq9
          have vq10 := hF.vq10
          have vq11 := hF.vq11
          have or0 := hF.or0
          have or1 := hF.or1
          have dj_r0_r1 := hF.dj_r0_r1
          have vq12 := hF.vq12
          have Bx_r0 := hF.Bx_r0
          have hb_r0 := hF.hb_r0
          have N_r0_0 := hF.N_r0_0
          have N_r1_0 := hF.N_r1_0
          have vq13 := hF.vq13
          have Bx_r1 := hF.Bx_r1
          have hb_r1 := hF.hb_r1
          have N_r0_1 := hF.N_r0_1
          have N_r1_1 := hF.N_r1_1
          have hne_r0_1 := hF.hne_r0_1
          clear hF
          have e1 : true = l1 := congrArg (fun q : Array Bool => q.getD 1 true) hl; subst e1
          have e3 : true = l3 := congrArg (fun q : Array Bool => q.getD 3 true) hl; subst e3
          have e7 : true = l7 := congrArg (fun q : Array Bool => q.getD 7 true) hl; subst e7
          have e12 : true = l12 := congrArg (fun q : Array Bool => q.getD 12 true) hl; subst e12
          have e13 : true = l13 := congrArg (fun q : Array Bool => q.getD 13 true) hl; subst e13
          clear hl k3_1 k7_1 k7_3
          replace vq1 := vq1 rfl
          replace oy0 := oy0 rfl
          replace vq3 := vq3 rfl
          replace oy1 := oy1 rfl
          replace vq7 := vq7 rfl
          replace vq8 := vq8 rfl
          replace vq9 := vq9 rfl
          replace vq10 := vq10 rfl
          replace vq11 := vq11 rfl
          replace or0 := or0 rfl
          replace or1 := or1 rfl
          replace dj_r0_r1 := dj_r0_r1 rfl
          replace vq12 := vq12 rfl
          replace Bx_r0 := Bx_r0 rfl
          replace hb_r0 := hb_r0 rfl
          replace N_r0_0 := N_r0_0 rfl rfl
          replace N_r1_0 := N_r1_0 rfl rfl
          replace vq13 := vq13 rfl
          replace Bx_r1 := Bx_r1 rfl
          replace hb_r1 := hb_r1 rfl
          replace N_r0_1 := N_r0_1 rfl rfl
          replace N_r1_1 := N_r1_1 rfl rfl
          replace hne_r0_1 := hne_r0_1 rfl rfl
          have hHeld := hS
          have B_p0 := hS.1
          have B_p1 := hS.2
          clear hS
          (try simp only [Act.put, List.setIfInBounds_toArray, List.set_cons_zero, List.set_cons_succ])
          subst vq1 vq3 vq7 vq8 vq9 vq10 vq11 vq12 vq13
          have B_r0 := Bx_r0
          clear Bx_r0
          have B_r1 := Bx_r1
          clear Bx_r1
          have Q_or0 := Lib.hid or0.feet
          have Q_or1 := Lib.hid or1.feet
          have G_all : Only [bx_r0, bx_r1] wc wc := Only.refl _ _
          refine wpAnyH_ready (rs := [14]) (by kernel_rfl) (by simp) ?_
          refine AllReadyH.cons (o := { dst := none, op := _, type := _, pos := _, after := _, guard := _ }) rfl (fun K hK => ?_) ?_
          refine step_st B_r0 (by simp [Region.wanted]) _ _ _ (by rfl) (by rfl) (by rfl) (by kernel_rfl) (by rfl) (by simp [Value.oneCell']) ?_
          intro wS14 B_r0' G
          replace B_r0 := B_r0'; clear B_r0'
          replace B_p0 := B_p0.only G (by first | (simp; done) | (simp; omega))
          replace B_p1 := B_p1.only G (by first | (simp; done) | (simp; omega))
          replace B_r1 := B_r1.only G (by first | (simp; done) | (simp; omega))
          replace or0 := or0.only G (fun k hk hk' => by simp at hk'; exact N_r0_0 k hk hk')
          replace or1 := or1.only G (fun k hk hk' => by simp at hk'; exact N_r1_0 k hk hk')
          replace G_all := G_all.trans (G.more (F' := [bx_r0, bx_r1]) (by simp))
          clear G
          refine hK.out _ _ ?_ (fun hHeld => ?_)
          · exact ⟨B_p0, B_p1⟩
          clear hK K
          (try simp only [pt_])
          refine wpAnyH_ready (rs := [15]) (by kernel_rfl) (by simp) ?_
          refine AllReadyH.cons (o := { dst := none, op := _, type := _, pos := _, after := _, guard := _ }) rfl (fun K hK => ?_) ?_
          refine step_st B_r1 (by simp [Region.wanted]) _ _ _ (by rfl) (by rfl) (by rfl) (by kernel_rfl) (by rfl) (by simp [Value.oneCell']) ?_
          intro wS15 B_r1' G
          replace B_r1 := B_r1'; clear B_r1'
          replace B_p0 := B_p0.only G (by first | (simp; done) | (simp; omega))
          replace B_p1 := B_p1.only G (by first | (simp; done) | (simp; omega))
          replace B_r0 := B_r0.only G (by first | (simp; done) | (simp; omega))
          replace or0 := or0.only G (fun k hk hk' => by simp at hk'; exact N_r0_1 k hk hk')
          replace or1 := or1.only G (fun k hk hk' => by simp at hk'; exact N_r1_1 k hk hk')
          replace G_all := G_all.trans (G.more (F' := [bx_r0, bx_r1]) (by simp))
          clear G
          refine hK.out _ _ ?_ (fun hHeld => ?_)
          · exact ⟨B_p0, B_p1⟩
          clear hK K
          (try simp only [pt_])
          refine tk (i := 16) (oi := ⟨some 14, _, _, _, _, _⟩) (v := ?v16_7) hHeld rfl ?y16_7 ?r16_7
          case y16_7 => (intro w _; first | (go_simp; done) | (go_simp; with_reducible rfl) | (with_reducible rfl))
          (try simp only [pt_])
          refine wpAnyH_done (by kernel_rfl) ?_ _
          refine NoPanic.normal ?_
          rotate_left 1
          exact AllReadyH.nil
          exact AllReadyH.nil
          have U2 := U.trans (G_all.below U.size (by intro q hq; simp at hq; omega))
          have SG := G_all.size
          try go_wp2_with fail
          go_meet
          exact ⟨r0, F_r0, r1, F_r1, bx_r0, bx_r1, rfl, rfl, rfl, or0, or1, fun k hk => ⟨or0.feet k hk, N_r0_0 k hk, N_r0_1 k hk⟩, fun k hk => ⟨or1.feet k hk, N_r1_0 k hk, N_r1_1 k hk⟩, dj_r0_r1, B_r0, B_r1, ⟨by omega, by omega⟩, ⟨by omega, by omega⟩, hne_r0_1, U2⟩
      obtain ⟨r0, F_r0, r1, F_r1, bx_r0, bx_r1, rfl, rfl, rfl, or0, or1, Q_or0, Q_or1, dj_r0_r1, B_r0, B_r1, hb_r0, hb_r1, hne_r0_1, u_all⟩ := hcut
      generalize wc = w4' at *
      replace B_p0 := B_p0.below u_all
      replace B_p1 := B_p1.below u_all
      have V_w4' := V_w3'.trans (u_all.mono (V_w3').size)
      have S_w4' := u_all.size
      clear u_all V_w3'
      replace Q_or0 := Lib.hid Q_or0
      replace Q_or1 := Lib.hid Q_or1
      have e_p0 := B_p0.all11
      go_wp2_with fail
      clear e_p0
      refine (toPlayer_o a0 p0 _ (z0.below V_w4') ht0).mono ?_
      rintro e w5' ⟨x0, F_x0, rfl, ox0, u_w5'⟩
      replace B_p0 := B_p0.below u_w5'
      replace B_p1 := B_p1.below u_w5'
      replace B_r0 := B_r0.below u_w5'
      replace B_r1 := B_r1.below u_w5'
      replace or0 := or0.below u_w5'
      replace or1 := or1.below u_w5'
      have V_w5' := V_w4'.trans (u_w5'.mono (V_w4').size)
      have S_w5' := u_w5'.size
      clear u_w5' V_w4'
      have Q_ox0 := Lib.hid ox0.feet
      have e_p1 := B_p1.all11
      have B_p1_0 := B_p1.alloc (.cells #[.int .i64 a0.P, .int .i64 a0.party, .int .i64 a0.input, .int .i64 a0.mask, .int .i64 a0.delta, .slice x0.sa x0.sn x0.sc, .slice x0.ka x0.kn x0.kc, .int .i64 a0.step, .slice x0.ha x0.hn x0.hc, .int .i64 a0.status, .int .i64 a0.out] 31)
      have e_p1_0 := B_p1_0.all11
      go_wp2_with fail
      clear e_p1 B_p1_0 e_p1_0
      refine Exists.elim (Blk.new_ w5' (b := w5'.heap.size) rfl 31 #[.int .i64 a0.P, .int .i64 a0.party, .int .i64 a0.input, .int .i64 a0.mask, .int .i64 a0.delta, .slice x0.sa x0.sn x0.sc, .slice x0.ka x0.kn x0.kc, .int .i64 a0.step, .slice x0.ha x0.hn x0.hc, .int .i64 a0.status, .int .i64 a0.out]) (fun w6' q => ?_)
      rw [q.1]; have B_x0 := q.2.1; have s_w6' := q.2.2.1; have u_w6' := q.2.2.2; clear q
      replace B_p0 := B_p0.below u_w6'
      replace B_p1 := B_p1.below u_w6'
      replace B_r0 := B_r0.below u_w6'
      replace B_r1 := B_r1.below u_w6'
      replace or0 := or0.below u_w6'
      replace or1 := or1.below u_w6'
      replace ox0 := ox0.below u_w6'
      have V_w6' := V_w5'.trans (u_w6'.mono (V_w5').size)
      have S_w6' : w5'.heap.size + 1 ≤ w6'.heap.size := Nat.le_of_eq s_w6'.symm
      clear u_w6' s_w6' V_w5'
      refine (toPlayer_o a1 p1 _ (z1.below V_w6') ht1).mono ?_
      rintro e w7' ⟨x1, F_x1, rfl, ox1, u_w7'⟩
      replace B_p0 := B_p0.below u_w7'
      replace B_p1 := B_p1.below u_w7'
      replace B_r0 := B_r0.below u_w7'
      replace B_r1 := B_r1.below u_w7'
      replace B_x0 := B_x0.below u_w7'
      replace or0 := or0.below u_w7'
      replace or1 := or1.below u_w7'
      replace ox0 := ox0.below u_w7'
      have V_w7' := V_w6'.trans (u_w7'.mono (V_w6').size)
      have S_w7' := u_w7'.size
      clear u_w7' V_w6'
      have Q_ox1 := Lib.hid ox1.feet
      have e_x0 := B_x0.all11
      have B_x0_0 := B_x0.alloc (.cells #[.int .i64 a1.P, .int .i64 a1.party, .int .i64 a1.input, .int .i64 a1.mask, .int .i64 a1.delta, .slice x1.sa x1.sn x1.sc, .slice x1.ka x1.kn x1.kc, .int .i64 a1.step, .slice x1.ha x1.hn x1.hc, .int .i64 a1.status, .int .i64 a1.out] 31)
      have e_x0_0 := B_x0_0.all11
      go_wp2_with fail
      clear e_x0 B_x0_0 e_x0_0
      refine Exists.elim (Blk.new_ w7' (b := w7'.heap.size) rfl 31 #[.int .i64 a1.P, .int .i64 a1.party, .int .i64 a1.input, .int .i64 a1.mask, .int .i64 a1.delta, .slice x1.sa x1.sn x1.sc, .slice x1.ka x1.kn x1.kc, .int .i64 a1.step, .slice x1.ha x1.hn x1.hc, .int .i64 a1.status, .int .i64 a1.out]) (fun w8' q => ?_)
      rw [q.1]; have B_x1 := q.2.1; have s_w8' := q.2.2.1; have u_w8' := q.2.2.2; clear q
      replace B_p0 := B_p0.below u_w8'
      replace B_p1 := B_p1.below u_w8'
      replace B_r0 := B_r0.below u_w8'
      replace B_r1 := B_r1.below u_w8'
      replace B_x0 := B_x0.below u_w8'
      replace or0 := or0.below u_w8'
      replace or1 := or1.below u_w8'
      replace ox0 := ox0.below u_w8'
      replace ox1 := ox1.below u_w8'
      have V_w8' := V_w7'.trans (u_w8'.mono (V_w7').size)
      have S_w8' : w7'.heap.size + 1 ≤ w8'.heap.size := Nat.le_of_eq s_w8'.symm
      clear u_w8' s_w8' V_w7'
      refine (CI.out _ _ _ ox0.rd ox1.rd (LX.out.below V_w8')).mono ?_
      rintro e w9' ⟨g0, F_g0, g1, F_g1, rfl, og0, og1, dj_g0_g1, u_w9'⟩
      replace B_p0 := B_p0.below u_w9'
      replace B_p1 := B_p1.below u_w9'
      replace B_r0 := B_r0.below u_w9'
      replace B_r1 := B_r1.below u_w9'
      replace B_x0 := B_x0.below u_w9'
      replace B_x1 := B_x1.below u_w9'
      replace or0 := or0.below u_w9'
      replace or1 := or1.below u_w9'
      replace ox0 := ox0.below u_w9'
      replace ox1 := ox1.below u_w9'
      have V_w9' := V_w8'.trans (u_w9'.mono (V_w8').size)
      have S_w9' := u_w9'.size
      clear u_w9' V_w8'
      have Q_og0 := Lib.hid og0.feet
      have Q_og1 := Lib.hid og1.feet
      have e_r0 := B_r0.all11
      have B_r0_0 := B_r0.alloc (.cells #[.int .i64 d0_0.P, .int .i64 d0_0.party, .int .i64 d0_0.input, .int .i64 d0_0.mask, .int .i64 d0_0.delta, .slice g0.sa g0.sn g0.sc, .slice g0.ka g0.kn g0.kc, .int .i64 d0_0.step, .slice g0.ha g0.hn g0.hc, .int .i64 d0_0.status, .int .i64 d0_0.out] 31)
      have e_r0_0 := B_r0_0.all11
      have B_r0_1 := B_r0_0.alloc (.cells #[.int .i64 d1_0.P, .int .i64 d1_0.party, .int .i64 d1_0.input, .int .i64 d1_0.mask, .int .i64 d1_0.delta, .slice g1.sa g1.sn g1.sc, .slice g1.ka g1.kn g1.kc, .int .i64 d1_0.step, .slice g1.ha g1.hn g1.hc, .int .i64 d1_0.status, .int .i64 d1_0.out] 31)
      have e_r0_1 := B_r0_1.all11
      go_wp2_with fail
      clear e_r0 B_r0_0 e_r0_0 B_r0_1 e_r0_1
      refine Exists.elim (Blk.new_ w9' (b := w9'.heap.size) rfl 31 #[.int .i64 d0_0.P, .int .i64 d0_0.party, .int .i64 d0_0.input, .int .i64 d0_0.mask, .int .i64 d0_0.delta, .slice g0.sa g0.sn g0.sc, .slice g0.ka g0.kn g0.kc, .int .i64 d0_0.step, .slice g0.ha g0.hn g0.hc, .int .i64 d0_0.status, .int .i64 d0_0.out]) (fun w10_a0' q => ?_)
      rw [q.1]; have B_g0 := q.2.1; have s_w10_a0' := q.2.2.1; have u_w10_a0' := q.2.2.2; clear q
      refine Exists.elim (Blk.new_ w10_a0' (b := w9'.heap.size + 1) s_w10_a0' 31 #[.int .i64 d1_0.P, .int .i64 d1_0.party, .int .i64 d1_0.input, .int .i64 d1_0.mask, .int .i64 d1_0.delta, .slice g1.sa g1.sn g1.sc, .slice g1.ka g1.kn g1.kc, .int .i64 d1_0.step, .slice g1.ha g1.hn g1.hc, .int .i64 d1_0.status, .int .i64 d1_0.out]) (fun w10' q => ?_)
      rw [q.1]; have B_g1 := q.2.1; have s_w10' := q.2.2.1; have u_w10' := q.2.2.2; clear q
      replace B_g0 := (B_g0.below u_w10')
      have U := (u_w10_a0'.trans (u_w10'.mono u_w10_a0'.size))
      replace B_p0 := B_p0.below U
      replace B_p1 := B_p1.below U
      replace B_r0 := B_r0.below U
      replace B_r1 := B_r1.below U
      replace B_x0 := B_x0.below U
      replace B_x1 := B_x1.below U
      replace or0 := or0.below U
      replace or1 := or1.below U
      replace ox0 := ox0.below U
      replace ox1 := ox1.below U
      replace og0 := og0.below U
      replace og1 := og1.below U
      have V_w10' := V_w9'.trans (U.mono (V_w9').size)
      have S_w10' : w9'.heap.size + 2 ≤ w10'.heap.size := Nat.le_of_eq s_w10'.symm
      clear u_w10_a0' u_w10' s_w10_a0' s_w10' U V_w9'
      refine (eqPlayer_o d0_0 _ _ _ og0.rd or0.rd).mono ?_
      rintro e w11' ⟨rfl, u_w11'⟩
      replace B_p0 := B_p0.below u_w11'
      replace B_p1 := B_p1.below u_w11'
      replace B_r0 := B_r0.below u_w11'
      replace B_r1 := B_r1.below u_w11'
      replace B_x0 := B_x0.below u_w11'
      replace B_x1 := B_x1.below u_w11'
      replace B_g0 := B_g0.below u_w11'
      replace B_g1 := B_g1.below u_w11'
      replace or0 := or0.below u_w11'
      replace or1 := or1.below u_w11'
      replace ox0 := ox0.below u_w11'
      replace ox1 := ox1.below u_w11'
      replace og0 := og0.below u_w11'
      replace og1 := og1.below u_w11'
      have V_w11' := V_w10'.trans (u_w11'.mono (V_w10').size)
      have S_w11' := u_w11'.size
      clear u_w11' V_w10'
      have e_g1 := B_g1.all11
      have e_r1 := B_r1.all11
      go_wp2_with fail
      clear e_g1 e_r1
      refine (eqPlayer_o d1_0 _ _ _ og1.rd or1.rd).mono ?_
      rintro e w12' ⟨rfl, u_w12'⟩
      replace B_p0 := B_p0.below u_w12'
      replace B_p1 := B_p1.below u_w12'
      replace B_r0 := B_r0.below u_w12'
      replace B_r1 := B_r1.below u_w12'
      replace B_x0 := B_x0.below u_w12'
      replace B_x1 := B_x1.below u_w12'
      replace B_g0 := B_g0.below u_w12'
      replace B_g1 := B_g1.below u_w12'
      replace or0 := or0.below u_w12'
      replace or1 := or1.below u_w12'
      replace ox0 := ox0.below u_w12'
      replace ox1 := ox1.below u_w12'
      replace og0 := og0.below u_w12'
      replace og1 := og1.below u_w12'
      have V_w12' := V_w11'.trans (u_w12'.mono (V_w11').size)
      have S_w12' := u_w12'.size
      clear u_w12' V_w11'
      go_wp2
      go_region_held3 (fun W => W.cell? ⟨w5'.heap.size, 0, none⟩ = some (.int .i64 a0.P) ∧ W.cell? ⟨w5'.heap.size, 1, none⟩ = some (.int .i64 a0.party) ∧ W.cell? ⟨w5'.heap.size, 2, none⟩ = some (.int .i64 a0.input) ∧ W.cell? ⟨w5'.heap.size, 3, none⟩ = some (.int .i64 a0.mask) ∧ W.cell? ⟨w5'.heap.size, 4, none⟩ = some (.int .i64 a0.delta) ∧ W.cell? ⟨w5'.heap.size, 5, none⟩ = some (.slice x0.sa x0.sn x0.sc) ∧ W.cell? ⟨w5'.heap.size, 6, none⟩ = some (.slice x0.ka x0.kn x0.kc) ∧ W.cell? ⟨w5'.heap.size, 7, none⟩ = some (.int .i64 a0.step) ∧ W.cell? ⟨w5'.heap.size, 8, none⟩ = some (.slice x0.ha x0.hn x0.hc) ∧ W.cell? ⟨w5'.heap.size, 9, none⟩ = some (.int .i64 a0.status) ∧ W.cell? ⟨w5'.heap.size, 10, none⟩ = some (.int .i64 a0.out) ∧ W.cell? ⟨w.heap.size, 0, none⟩ = some (.int .i64 a0.P) ∧ W.cell? ⟨w.heap.size, 1, none⟩ = some (.int .i64 a0.party) ∧ W.cell? ⟨w.heap.size, 2, none⟩ = some (.int .i64 a0.input) ∧ W.cell? ⟨w.heap.size, 3, none⟩ = some (.int .i64 a0.mask) ∧ W.cell? ⟨w.heap.size, 4, none⟩ = some (.int .i64 a0.delta) ∧ W.cell? ⟨w.heap.size, 5, none⟩ = some (.slice p0.sa p0.sn p0.sc) ∧ W.cell? ⟨w.heap.size, 6, none⟩ = some (.slice p0.ka p0.kn p0.kc) ∧ W.cell? ⟨w.heap.size, 7, none⟩ = some (.int .i64 a0.step) ∧ W.cell? ⟨w.heap.size, 8, none⟩ = some (.slice p0.ha p0.hn p0.hc) ∧ W.cell? ⟨w.heap.size, 9, none⟩ = some (.int .i64 a0.status) ∧ W.cell? ⟨w.heap.size, 10, none⟩ = some (.int .i64 a0.out))
        (first | (have Bu := (B_x0.drew.below tu).below tv; have Bv := (B_p0.drew.below tu).below tv; exact ⟨Bu.a11_0, Bu.a11_1, Bu.a11_2, Bu.a11_3, Bu.a11_4, Bu.a11_5, Bu.a11_6, Bu.a11_7, Bu.a11_8, Bu.a11_9, Bu.a11_10, Bv.a11_0, Bv.a11_1, Bv.a11_2, Bv.a11_3, Bv.a11_4, Bv.a11_5, Bv.a11_6, Bv.a11_7, Bv.a11_8, Bv.a11_9, Bv.a11_10⟩) | (have Bu := B_x0.drew.below tu; have Bv := B_p0.drew.below tu; exact ⟨Bu.a11_0, Bu.a11_1, Bu.a11_2, Bu.a11_3, Bu.a11_4, Bu.a11_5, Bu.a11_6, Bu.a11_7, Bu.a11_8, Bu.a11_9, Bu.a11_10, Bv.a11_0, Bv.a11_1, Bv.a11_2, Bv.a11_3, Bv.a11_4, Bv.a11_5, Bv.a11_6, Bv.a11_7, Bv.a11_8, Bv.a11_9, Bv.a11_10⟩) | (have Bu := B_x0.drew; have Bv := B_p0.drew; exact ⟨Bu.a11_0, Bu.a11_1, Bu.a11_2, Bu.a11_3, Bu.a11_4, Bu.a11_5, Bu.a11_6, Bu.a11_7, Bu.a11_8, Bu.a11_9, Bu.a11_10, Bv.a11_0, Bv.a11_1, Bv.a11_2, Bv.a11_3, Bv.a11_4, Bv.a11_5, Bv.a11_6, Bv.a11_7, Bv.a11_8, Bv.a11_9, Bv.a11_10⟩))
        (first | (go_at_call 15; refine (toPlayer_o a0 p0 _ (z0.below V_w12'.drew) ht0).mono ?_; rintro e wt ⟨t0, F_t0, rfl, ot0, tu⟩) | (go_at_call 17; refine (eqPlayer_o a0 _ _ _ (ox0.drew.below tu).rd ot0.rd).mono ?_; rintro e wq ⟨rfl, tv⟩))
      have u_w13' : Below w12'.heap.size w12' wq := (Below.refl _ _).drew.trans (tu.trans (tv.mono tu.size))
      clear tu tv ot0
      replace B_p0 := B_p0.below u_w13'
      replace B_p1 := B_p1.below u_w13'
      replace B_r0 := B_r0.below u_w13'
      replace B_r1 := B_r1.below u_w13'
      replace B_x0 := B_x0.below u_w13'
      replace B_x1 := B_x1.below u_w13'
      replace B_g0 := B_g0.below u_w13'
      replace B_g1 := B_g1.below u_w13'
      replace or0 := or0.below u_w13'
      replace or1 := or1.below u_w13'
      replace ox0 := ox0.below u_w13'
      replace ox1 := ox1.below u_w13'
      replace og0 := og0.below u_w13'
      replace og1 := og1.below u_w13'
      have V_wq := V_w12'.trans (u_w13'.mono (V_w12').size)
      have S_wq := u_w13'.size
      clear u_w13' V_w12'
      generalize wq = w13' at *
      have V_w13' := V_wq
      clear V_wq
      have S_w13' := S_wq
      clear S_wq
      go_wp2
      go_region_held3 (fun W => W.cell? ⟨w7'.heap.size, 0, none⟩ = some (.int .i64 a1.P) ∧ W.cell? ⟨w7'.heap.size, 1, none⟩ = some (.int .i64 a1.party) ∧ W.cell? ⟨w7'.heap.size, 2, none⟩ = some (.int .i64 a1.input) ∧ W.cell? ⟨w7'.heap.size, 3, none⟩ = some (.int .i64 a1.mask) ∧ W.cell? ⟨w7'.heap.size, 4, none⟩ = some (.int .i64 a1.delta) ∧ W.cell? ⟨w7'.heap.size, 5, none⟩ = some (.slice x1.sa x1.sn x1.sc) ∧ W.cell? ⟨w7'.heap.size, 6, none⟩ = some (.slice x1.ka x1.kn x1.kc) ∧ W.cell? ⟨w7'.heap.size, 7, none⟩ = some (.int .i64 a1.step) ∧ W.cell? ⟨w7'.heap.size, 8, none⟩ = some (.slice x1.ha x1.hn x1.hc) ∧ W.cell? ⟨w7'.heap.size, 9, none⟩ = some (.int .i64 a1.status) ∧ W.cell? ⟨w7'.heap.size, 10, none⟩ = some (.int .i64 a1.out) ∧ W.cell? ⟨w.heap.size + 1, 0, none⟩ = some (.int .i64 a1.P) ∧ W.cell? ⟨w.heap.size + 1, 1, none⟩ = some (.int .i64 a1.party) ∧ W.cell? ⟨w.heap.size + 1, 2, none⟩ = some (.int .i64 a1.input) ∧ W.cell? ⟨w.heap.size + 1, 3, none⟩ = some (.int .i64 a1.mask) ∧ W.cell? ⟨w.heap.size + 1, 4, none⟩ = some (.int .i64 a1.delta) ∧ W.cell? ⟨w.heap.size + 1, 5, none⟩ = some (.slice p1.sa p1.sn p1.sc) ∧ W.cell? ⟨w.heap.size + 1, 6, none⟩ = some (.slice p1.ka p1.kn p1.kc) ∧ W.cell? ⟨w.heap.size + 1, 7, none⟩ = some (.int .i64 a1.step) ∧ W.cell? ⟨w.heap.size + 1, 8, none⟩ = some (.slice p1.ha p1.hn p1.hc) ∧ W.cell? ⟨w.heap.size + 1, 9, none⟩ = some (.int .i64 a1.status) ∧ W.cell? ⟨w.heap.size + 1, 10, none⟩ = some (.int .i64 a1.out))
        (first | (have Bu := (B_x1.drew.below tu).below tv; have Bv := (B_p1.drew.below tu).below tv; exact ⟨Bu.a11_0, Bu.a11_1, Bu.a11_2, Bu.a11_3, Bu.a11_4, Bu.a11_5, Bu.a11_6, Bu.a11_7, Bu.a11_8, Bu.a11_9, Bu.a11_10, Bv.a11_0, Bv.a11_1, Bv.a11_2, Bv.a11_3, Bv.a11_4, Bv.a11_5, Bv.a11_6, Bv.a11_7, Bv.a11_8, Bv.a11_9, Bv.a11_10⟩) | (have Bu := B_x1.drew.below tu; have Bv := B_p1.drew.below tu; exact ⟨Bu.a11_0, Bu.a11_1, Bu.a11_2, Bu.a11_3, Bu.a11_4, Bu.a11_5, Bu.a11_6, Bu.a11_7, Bu.a11_8, Bu.a11_9, Bu.a11_10, Bv.a11_0, Bv.a11_1, Bv.a11_2, Bv.a11_3, Bv.a11_4, Bv.a11_5, Bv.a11_6, Bv.a11_7, Bv.a11_8, Bv.a11_9, Bv.a11_10⟩) | (have Bu := B_x1.drew; have Bv := B_p1.drew; exact ⟨Bu.a11_0, Bu.a11_1, Bu.a11_2, Bu.a11_3, Bu.a11_4, Bu.a11_5, Bu.a11_6, Bu.a11_7, Bu.a11_8, Bu.a11_9, Bu.a11_10, Bv.a11_0, Bv.a11_1, Bv.a11_2, Bv.a11_3, Bv.a11_4, Bv.a11_5, Bv.a11_6, Bv.a11_7, Bv.a11_8, Bv.a11_9, Bv.a11_10⟩))
        (first | (go_at_call 15; refine (toPlayer_o a1 p1 _ (z1.below V_w13'.drew) ht1).mono ?_; rintro e wt ⟨t1, F_t1, rfl, ot1, tu⟩) | (go_at_call 17; refine (eqPlayer_o a1 _ _ _ (ox1.drew.below tu).rd ot1.rd).mono ?_; rintro e wq ⟨rfl, tv⟩))
      have u_w14' : Below w13'.heap.size w13' wq := (Below.refl _ _).drew.trans (tu.trans (tv.mono tu.size))
      clear tu tv ot1
      replace B_p0 := B_p0.below u_w14'
      replace B_p1 := B_p1.below u_w14'
      replace B_r0 := B_r0.below u_w14'
      replace B_r1 := B_r1.below u_w14'
      replace B_x0 := B_x0.below u_w14'
      replace B_x1 := B_x1.below u_w14'
      replace B_g0 := B_g0.below u_w14'
      replace B_g1 := B_g1.below u_w14'
      replace or0 := or0.below u_w14'
      replace or1 := or1.below u_w14'
      replace ox0 := ox0.below u_w14'
      replace ox1 := ox1.below u_w14'
      replace og0 := og0.below u_w14'
      replace og1 := og1.below u_w14'
      have V_wq := V_w13'.trans (u_w14'.mono (V_w13').size)
      have S_wq := u_w14'.size
      clear u_w14' V_w13'
      generalize wq = w14' at *
      have V_w14' := V_wq
      clear V_wq
      have S_w14' := S_wq
      clear S_wq
      have e_x0 := B_x0.all11
      go_wp2_with fail
      clear e_x0
      refine (markPlayer_o _ _ _ _ _ _ _ _ _ ox0 (by omega) (by omega)).mono ?_
      rintro e w15' ⟨ms_ox0, mk_ox0, mh_ox0, rfl, ox0, U_ox0, T_ox0, G⟩
      replace U_ox0 := Lib.hid U_ox0
      have hm_ox0 : cntP ms_ox0 mk_ox0 mh_ox0 ≤ 10000000 := by omega
      clear T_ox0
      replace or0 := or0.only G (fun k hk hk' => by have := Q_or0.out k hk; have := Q_ox0.out k hk'; omega)
      replace or1 := or1.only G (fun k hk hk' => by have := Q_or1.out k hk; have := Q_ox0.out k hk'; omega)
      replace ox1 := ox1.only G (fun k hk hk' => by have := Q_ox1.out k hk; have := Q_ox0.out k hk'; omega)
      replace og0 := og0.only G (fun k hk hk' => by have := Q_og0.out k hk; have := Q_ox0.out k hk'; omega)
      replace og1 := og1.only G (fun k hk hk' => by have := Q_og1.out k hk; have := Q_ox0.out k hk'; omega)
      replace B_p0 := B_p0.only G (fun hm => by have := Q_ox0.out _ hm; omega)
      replace B_p1 := B_p1.only G (fun hm => by have := Q_ox0.out _ hm; omega)
      replace B_r0 := B_r0.only G (fun hm => by have := Q_ox0.out _ hm; omega)
      replace B_r1 := B_r1.only G (fun hm => by have := Q_ox0.out _ hm; omega)
      replace B_x0 := B_x0.only G (fun hm => by have := Q_ox0.out _ hm; omega)
      replace B_x1 := B_x1.only G (fun hm => by have := Q_ox0.out _ hm; omega)
      replace B_g0 := B_g0.only G (fun hm => by have := Q_ox0.out _ hm; omega)
      replace B_g1 := B_g1.only G (fun hm => by have := Q_ox0.out _ hm; omega)
      have V_w15' := V_w14'.trans (G.below V_w14'.size (fun k hm => by have := V_w14'.size; have := Q_ox0.out k hm; omega))
      have S_w15' := G.size
      clear G V_w14'
      have e_x1 := B_x1.all11
      go_wp2_with fail
      clear e_x1
      refine (markPlayer_o _ _ _ _ _ _ _ _ _ ox1 (by omega) (by omega)).mono ?_
      rintro e w16' ⟨ms_ox1, mk_ox1, mh_ox1, rfl, ox1, U_ox1, T_ox1, G⟩
      replace U_ox1 := Lib.hid U_ox1
      have hm_ox1 : cntP ms_ox1 mk_ox1 mh_ox1 ≤ 10000000 := by omega
      clear T_ox1
      replace or0 := or0.only G (fun k hk hk' => by have := Q_or0.out k hk; have := Q_ox1.out k hk'; omega)
      replace or1 := or1.only G (fun k hk hk' => by have := Q_or1.out k hk; have := Q_ox1.out k hk'; omega)
      replace ox0 := ox0.only G (fun k hk hk' => by have := Q_ox0.out k hk; have := Q_ox1.out k hk'; omega)
      replace og0 := og0.only G (fun k hk hk' => by have := Q_og0.out k hk; have := Q_ox1.out k hk'; omega)
      replace og1 := og1.only G (fun k hk hk' => by have := Q_og1.out k hk; have := Q_ox1.out k hk'; omega)
      replace B_p0 := B_p0.only G (fun hm => by have := Q_ox1.out _ hm; omega)
      replace B_p1 := B_p1.only G (fun hm => by have := Q_ox1.out _ hm; omega)
      replace B_r0 := B_r0.only G (fun hm => by have := Q_ox1.out _ hm; omega)
      replace B_r1 := B_r1.only G (fun hm => by have := Q_ox1.out _ hm; omega)
      replace B_x0 := B_x0.only G (fun hm => by have := Q_ox1.out _ hm; omega)
      replace B_x1 := B_x1.only G (fun hm => by have := Q_ox1.out _ hm; omega)
      replace B_g0 := B_g0.only G (fun hm => by have := Q_ox1.out _ hm; omega)
      replace B_g1 := B_g1.only G (fun hm => by have := Q_ox1.out _ hm; omega)
      have V_w16' := V_w15'.trans (G.below V_w15'.size (fun k hm => by have := V_w15'.size; have := Q_ox1.out k hm; omega))
      have S_w16' := G.size
      clear G V_w15'
      have e_g0 := B_g0.all11
      have e_r0 := B_r0.all11
      go_wp2_with fail
      clear e_g0 e_r0
      refine (eqPlayer_o d0_0 _ _ _ og0.rd or0.rd).mono ?_
      rintro e w17' ⟨rfl, u_w17'⟩
      replace B_p0 := B_p0.below u_w17'
      replace B_p1 := B_p1.below u_w17'
      replace B_r0 := B_r0.below u_w17'
      replace B_r1 := B_r1.below u_w17'
      replace B_x0 := B_x0.below u_w17'
      replace B_x1 := B_x1.below u_w17'
      replace B_g0 := B_g0.below u_w17'
      replace B_g1 := B_g1.below u_w17'
      replace or0 := or0.below u_w17'
      replace or1 := or1.below u_w17'
      replace ox0 := ox0.below u_w17'
      replace ox1 := ox1.below u_w17'
      replace og0 := og0.below u_w17'
      replace og1 := og1.below u_w17'
      have V_w17' := V_w16'.trans (u_w17'.mono (V_w16').size)
      have S_w17' := u_w17'.size
      clear u_w17' V_w16'
      have e_g1 := B_g1.all11
      have e_r1 := B_r1.all11
      go_wp2_with fail
      clear e_g1 e_r1
      refine (eqPlayer_o d1_0 _ _ _ og1.rd or1.rd).mono ?_
      rintro e w18' ⟨rfl, u_w18'⟩
      replace B_p0 := B_p0.below u_w18'
      replace B_p1 := B_p1.below u_w18'
      replace B_r0 := B_r0.below u_w18'
      replace B_r1 := B_r1.below u_w18'
      replace B_x0 := B_x0.below u_w18'
      replace B_x1 := B_x1.below u_w18'
      replace B_g0 := B_g0.below u_w18'
      replace B_g1 := B_g1.below u_w18'
      replace or0 := or0.below u_w18'
      replace or1 := or1.below u_w18'
      replace ox0 := ox0.below u_w18'
      replace ox1 := ox1.below u_w18'
      replace og0 := og0.below u_w18'
      replace og1 := og1.below u_w18'
      have V_w18' := V_w17'.trans (u_w18'.mono (V_w17').size)
      have S_w18' := u_w18'.size
      clear u_w18' V_w17'
      clear ox0
      clear ox1
      clear B_x0
      clear B_x1
      have e_g0 := B_g0.all11
      go_wp2_with fail
      clear e_g0
      refine (markPlayer_o _ _ _ _ _ _ _ _ _ og0 (by omega) (by omega)).mono ?_
      rintro e w19' ⟨ms_og0, mk_og0, mh_og0, rfl, og0, U_og0, T_og0, G⟩
      replace U_og0 := Lib.hid U_og0
      have hm_og0 : cntP ms_og0 mk_og0 mh_og0 ≤ 10000000 := by omega
      clear T_og0
      replace or0 := or0.only G (fun k hk hk' => by have := Q_or0.out k hk; have := Q_og0.out k hk'; omega)
      replace or1 := or1.only G (fun k hk hk' => by have := Q_or1.out k hk; have := Q_og0.out k hk'; omega)
      replace og1 := og1.only G dj_g0_g1.symm
      replace B_p0 := B_p0.only G (fun hm => by have := Q_og0.out _ hm; omega)
      replace B_p1 := B_p1.only G (fun hm => by have := Q_og0.out _ hm; omega)
      replace B_r0 := B_r0.only G (fun hm => by have := Q_og0.out _ hm; omega)
      replace B_r1 := B_r1.only G (fun hm => by have := Q_og0.out _ hm; omega)
      replace B_g0 := B_g0.only G (fun hm => by have := Q_og0.out _ hm; omega)
      replace B_g1 := B_g1.only G (fun hm => by have := Q_og0.out _ hm; omega)
      have V_w19' := V_w18'.trans (G.below V_w18'.size (fun k hm => by have := V_w18'.size; have := Q_og0.out k hm; omega))
      have S_w19' := G.size
      clear G V_w18'
      have e_g1 := B_g1.all11
      go_wp2_with fail
      clear e_g1
      refine (markPlayer_o _ _ _ _ _ _ _ _ _ og1 (by omega) (by omega)).mono ?_
      rintro e w20' ⟨ms_og1, mk_og1, mh_og1, rfl, og1, U_og1, T_og1, G⟩
      replace U_og1 := Lib.hid U_og1
      have hm_og1 : cntP ms_og1 mk_og1 mh_og1 ≤ 10000000 := by omega
      clear T_og1
      replace or0 := or0.only G (fun k hk hk' => by have := Q_or0.out k hk; have := Q_og1.out k hk'; omega)
      replace or1 := or1.only G (fun k hk hk' => by have := Q_or1.out k hk; have := Q_og1.out k hk'; omega)
      replace og0 := og0.only G dj_g0_g1
      replace B_p0 := B_p0.only G (fun hm => by have := Q_og1.out _ hm; omega)
      replace B_p1 := B_p1.only G (fun hm => by have := Q_og1.out _ hm; omega)
      replace B_r0 := B_r0.only G (fun hm => by have := Q_og1.out _ hm; omega)
      replace B_r1 := B_r1.only G (fun hm => by have := Q_og1.out _ hm; omega)
      replace B_g0 := B_g0.only G (fun hm => by have := Q_og1.out _ hm; omega)
      replace B_g1 := B_g1.only G (fun hm => by have := Q_og1.out _ hm; omega)
      have V_w20' := V_w19'.trans (G.below V_w19'.size (fun k hm => by have := V_w19'.size; have := Q_og1.out k hm; omega))
      have S_w20' := G.size
      clear G V_w19'
      have e_g0 := B_g0.all11
      go_wp2_with fail
      clear e_g0
      refine (heldPlayer_o _ _ _ _ _ _ _ og0.rd U_og0.out (by omega) (by omega)).mono ?_
      rintro e w21' ⟨rfl, u_w21'⟩
      replace B_p0 := B_p0.below u_w21'
      replace B_p1 := B_p1.below u_w21'
      replace B_r0 := B_r0.below u_w21'
      replace B_r1 := B_r1.below u_w21'
      replace B_g0 := B_g0.below u_w21'
      replace B_g1 := B_g1.below u_w21'
      replace or0 := or0.below u_w21'
      replace or1 := or1.below u_w21'
      replace og0 := og0.below u_w21'
      replace og1 := og1.below u_w21'
      have V_w21' := V_w20'.trans (u_w21'.mono (V_w20').size)
      have S_w21' := u_w21'.size
      clear u_w21' V_w20'
      have e_g1 := B_g1.all11
      go_wp2_with fail
      clear e_g1
      refine (heldPlayer_o _ _ _ _ _ _ _ og1.rd U_og1.out (by omega) (by omega)).mono ?_
      rintro e w22' ⟨rfl, u_w22'⟩
      replace B_p0 := B_p0.below u_w22'
      replace B_p1 := B_p1.below u_w22'
      replace B_r0 := B_r0.below u_w22'
      replace B_r1 := B_r1.below u_w22'
      replace B_g0 := B_g0.below u_w22'
      replace B_g1 := B_g1.below u_w22'
      replace or0 := or0.below u_w22'
      replace or1 := or1.below u_w22'
      replace og0 := og0.below u_w22'
      replace og1 := og1.below u_w22'
      have V_w22' := V_w21'.trans (u_w22'.mono (V_w21').size)
      have S_w22' := u_w22'.size
      clear u_w22' V_w21'
      go_upto_region 35 with fail
      go_cut [23, 24, 25] (fun s23 s24 s25 wx => ∃ (h0 : PlX) (F_h0 : List Nat) (h1 : PlX) (F_h1 : List Nat) (bx_h0 : Nat) (bx_h1 : Nat), s23 = .pointer (some ⟨bx_h0, 0, none⟩) ∧ s24 = .pointer (some ⟨bx_h1, 0, none⟩) ∧ s25 = .bool d2_0 ∧ PlO wx w22'.heap.size h0 d0_0.shares d0_0.keys d0_0.heard F_h0 ∧ PlO wx w22'.heap.size h1 d1_0.shares d1_0.keys d1_0.heard F_h1 ∧ (∀ k ∈ F_h0, (w22'.heap.size ≤ k ∧ k < wx.heap.size) ∧ k ≠ bx_h0 ∧ k ≠ bx_h1) ∧ (∀ k ∈ F_h1, (w22'.heap.size ≤ k ∧ k < wx.heap.size) ∧ k ≠ bx_h0 ∧ k ≠ bx_h1) ∧ Disj (F_h0) (F_h1) ∧ Blk wx bx_h0 31 #[.int .i64 d0_0.P, .int .i64 d0_0.party, .int .i64 d0_0.input, .int .i64 d0_0.mask, .int .i64 d0_0.delta, .slice h0.sa h0.sn h0.sc, .slice h0.ka h0.kn h0.kc, .int .i64 d0_0.step, .slice h0.ha h0.hn h0.hc, .int .i64 d0_0.status, .int .i64 d0_0.out] ∧ Blk wx bx_h1 31 #[.int .i64 d1_0.P, .int .i64 d1_0.party, .int .i64 d1_0.input, .int .i64 d1_0.mask, .int .i64 d1_0.delta, .slice h1.sa h1.sn h1.sc, .slice h1.ka h1.kn h1.kc, .int .i64 d1_0.step, .slice h1.ha h1.hn h1.hc, .int .i64 d1_0.status, .int .i64 d1_0.out] ∧ (w22'.heap.size ≤ bx_h0 ∧ bx_h0 < wx.heap.size) ∧ (w22'.heap.size ≤ bx_h1 ∧ bx_h1 < wx.heap.size) ∧ bx_h0 ≠ bx_h1 ∧ Below w22'.heap.size w22' wx)
      case first =>
        replace B_p0 := Blk.drew B_p0
        replace B_p1 := Blk.drew B_p1
        replace B_p0 := Blk.drew B_p0
        replace B_p1 := Blk.drew B_p1
        refine wp_region_noPanic ?_
        refine wp_region_held_drew (S := (fun W => Blk W (w.heap.size) 26 #[.int .i64 a0.P, .int .i64 a0.party, .int .i64 a0.input, .int .i64 a0.mask, .int .i64 a0.delta, .slice p0.sa p0.sn p0.sc, .slice p0.ka p0.kn p0.kc, .int .i64 a0.step, .slice p0.ha p0.hn p0.hc, .int .i64 a0.status, .int .i64 a0.out] ∧ Blk W (w.heap.size + 1) 26 #[.int .i64 a1.P, .int .i64 a1.party, .int .i64 a1.input, .int .i64 a1.mask, .int .i64 a1.delta, .slice p1.sa p1.sn p1.sc, .slice p1.ka p1.kn p1.kc, .int .i64 a1.step, .slice p1.ha p1.hn p1.hc, .int .i64 a1.status, .int .i64 a1.out])) (by kernel_rfl) ?hS8 (fun hHeld => ?go8)
        case hS8 => exact ⟨B_p0, B_p1⟩
        refine tk (i := 0) (oi := ⟨some 132, _, _, _, _, _⟩) (v := ?v0_9) hHeld rfl ?y0_9 ?r0_9
        case y0_9 => (intro w hSw; obtain ⟨qS0, qS1⟩ := hSw; have cS0 := qS0.all11; have cS1 := qS1.all11; first | (go_simp; done) | (go_simp; with_reducible rfl) | (with_reducible rfl))
        (try simp only [pt_])
        refine tk (i := 2) (oi := ⟨some 134, _, _, _, _, _⟩) (v := ?v2_10) hHeld rfl ?y2_10 ?r2_10
        case y2_10 => (intro w hSw; obtain ⟨qS0, qS1⟩ := hSw; have cS0 := qS0.all11; have cS1 := qS1.all11; first | (go_simp; done) | (go_simp; with_reducible rfl) | (with_reducible rfl))
        (try simp only [pt_])
        refine tk (i := 4) (oi := ⟨some 136, _, _, _, _, _⟩) (v := ?v4_11) hHeld rfl ?y4_11 ?r4_11
        case y4_11 => (intro w _; first | (go_simp; done) | (go_simp; with_reducible rfl) | (with_reducible rfl))
        (try simp only [pt_])
        refine tk (i := 5) (oi := ⟨some 137, _, _, _, _, _⟩) (v := ?v5_12) hHeld rfl ?y5_12 ?r5_12
        case y5_12 => (intro w _; first | (go_simp; done) | (go_simp; with_reducible rfl) | (with_reducible rfl))
        (try simp only [pt_])
        refine tk (i := 6) (oi := ⟨some 138, _, _, _, _, _⟩) (v := ?v6_13) hHeld rfl ?y6_13 ?r6_13
        case y6_13 => (intro w _; first | (go_simp; done) | (go_simp; with_reducible rfl) | (with_reducible rfl))
        (try simp only [pt_])
        rotate_left 1
        refine wpAnyH_invG [1, 3, 7, 12, 13] #[true, false, true, false, true, true, true, false, false, false, false, false, false, false, false, false, false] #[true, true, true, true, true, true, true, true, true, true, true, true, true, true, false, false, false] 12 3 (fun (a0J : Act) (lJ : Array Bool) (aJ : Act) (wJ : World) => ∃ dJ : InvRunBentHD, lJ = #[true, dJ.l1, true, dJ.l3, true, true, true, dJ.l7, dJ.l7, dJ.l7, dJ.l7, dJ.l7, dJ.l12, dJ.l13, false, false, false] ∧ aJ = (((((((((a0J.put (some 133) dJ.v1).put (some 135) dJ.v3).put (some 139) dJ.v7).put (some 23) dJ.v12).put (some 24) dJ.v13).put (some 131) dJ.v8).put (some 140) dJ.v9).put (some 141) dJ.v10).put (some 142) dJ.v11) ∧ InvRunBentHF w22' a0 a1 a2 a3 a4 d0_0 d1_0 d2_0 dJ.l1 dJ.l3 dJ.l7 dJ.l12 dJ.l13 dJ.v1 dJ.v3 dJ.v7 dJ.v12 dJ.v13 dJ.v8 dJ.v9 dJ.v10 dJ.v11 dJ.x0 dJ.F_x0 dJ.x1 dJ.F_x1 dJ.h0 dJ.F_h0 dJ.h1 dJ.F_h1 dJ.bx_h0 dJ.bx_h1 wJ) (fun T => #[true, T.getD 0 true, true, T.getD 1 true, true, true, true, T.getD 2 true, T.getD 2 true, T.getD 2 true, T.getD 2 true, T.getD 2 true, T.getD 3 true, T.getD 4 true, false, false, false]) (by kernel_rfl) (by kernel_rfl) (by kernel_rfl) (by kernel_rfl) (by kernel_rfl) ?hJ hHeld ?hi ?hs ?he
        case hJ => rintro lJ aJ wJ ⟨dJ, rfl, _⟩; exact ⟨[dJ.l1, dJ.l3, dJ.l7, dJ.l12, dJ.l13], rfl, rfl⟩
        case hi => exact ⟨⟨false, false, false, false, false, _, _, _, _, _, _, _, _, _, zeroX, [], zeroX, [], zeroX, [], zeroX, [], 0, 0⟩, rfl, (Act.selfs (Act.selfs (Act.selfs (Act.selfs (Act.selfs (Act.selfs (Act.selfs (Act.selfs (Act.selfs rfl 133) 135) 139) 23) 24) 131) 140) 141) 142), ⟨(Below.refl _ _).drew, fun q0 => (by cases q0), fun q0 => (by cases q0), fun q0 => (by cases q0), fun q0 => (by cases q0), fun q0 => (by cases q0), fun q0 => (by cases q0), fun q0 => (by cases q0), fun q0 => (by cases q0), fun q0 => (by cases q0), fun q0 => (by cases q0), fun q0 => (by cases q0), fun q0 => (by cases q0), fun q0 => (by cases q0), fun q0 => (by cases q0), fun q0 => (by cases q0), fun q0 => (by cases q0), fun q0 => (by cases q0), fun q0 => (by cases q0), fun q0 q1 => (by cases q0), fun q0 q1 => (by cases q0), fun q0 => (by cases q0), fun q0 => (by cases q0), fun q0 => (by cases q0), fun q0 q1 => (by cases q0), fun q0 q1 => (by cases q0), fun q0 q1 => (by cases q0)⟩⟩
        case hs =>
          refine StepsG.cons (o := { dst := some 133, op := _, type := _, pos := _, after := _, guard := _ }) rfl ?_ ?_
          · intro nG lJ aJ wi K IH hS hJ hz0 hd hK
            obtain ⟨dJ, hJ⟩ := hJ
            obtain ⟨e1, hJ⟩ := hJ
            obtain ⟨e2, hF⟩ := hJ
            subst e1
            subst e2
            cases dJ with | mk l1 l3 l7 l12 l13 v1 v3 v7 v12 v13 v8 v9 v10 v11 x0 F_x0 x1 F_x1 h0 F_h0 h1 F_h1 bx_h0 bx_h1 =>
            replace hF : InvRunBentHF w22' a0 a1 a2 a3 a4 d0_0 d1_0 d2_0 l1 l3 l7 l12 l13 v1 v3 v7 v12 v13 v8 v9 v10 v11 x0 F_x0 x1 F_x1 h0 F_h0 h1 F_h1 bx_h0 bx_h1 wi := hF
            have U := hF.U
            have k3_1 := hF.k3_1
            have k7_1 := hF.k7_1
            have k7_3 := hF.k7_3
            have vq1 := hF.vq1
            have ox0 := hF.ox0
            have vq3 := hF.vq3
            have ox1 := hF.ox1
            have vq7 := hF.vq7
            have vq8 := hF.vq8
            have vq9 := hF.vq9
            have vq10 := hF.vq10
            have vq11 := hF.vq11
            have oh0 := hF.oh0
            have oh1 := hF.oh1
            have dj_h0_h1 := hF.dj_h0_h1
            have vq12 := hF.vq12
            have Bx_h0 := hF.Bx_h0
            have hb_h0 := hF.hb_h0
            have N_h0_0 := hF.N_h0_0
            have N_h1_0 := hF.N_h1_0
            have vq13 := hF.vq13
            have Bx_h1 := hF.Bx_h1
            have hb_h1 := hF.hb_h1
            have N_h0_1 := hF.N_h0_1
            have N_h1_1 := hF.N_h1_1
            have hne_h0_1 := hF.hne_h0_1
            clear hF
            have e0 : l1 = false := hz0; subst e0
            clear hz0 hd
            have B_p0 := hS.1
            have B_p1 := hS.2
            clear hS
            (try simp only [Act.put, List.setIfInBounds_toArray, List.set_cons_zero, List.set_cons_succ])
            replace k3_1 := Lib.hid k3_1
            replace k7_1 := Lib.hid k7_1
            replace k7_3 := Lib.hid k7_3
            replace vq1 := Lib.hid vq1
            replace vq10 := Lib.hid vq10
            replace vq11 := Lib.hid vq11
            replace vq12 := Lib.hid vq12
            replace vq13 := Lib.hid vq13
            replace vq3 := Lib.hid vq3
            replace vq7 := Lib.hid vq7
            replace vq8 := Lib.hid vq8
            replace vq9 := Lib.hid vq9
            go_simp
            refine (toPlayer_o a0 p0 _ (z0.below (V_w22'.trans (U.mono V_w22'.size))) ht0).mono ?_
            rintro e wo ⟨z', F', rfl, n1, u⟩
            replace B_p0 := (B_p0).below u
            replace B_p1 := (B_p1).below u
            refine hK.out _ _ ⟨B_p0, B_p1⟩ ?_
            have hS2 := (⟨B_p0, B_p1⟩ : (fun W => Blk W (w.heap.size) 26 #[.int .i64 a0.P, .int .i64 a0.party, .int .i64 a0.input, .int .i64 a0.mask, .int .i64 a0.delta, .slice p0.sa p0.sn p0.sc, .slice p0.ka p0.kn p0.kc, .int .i64 a0.step, .slice p0.ha p0.hn p0.hc, .int .i64 a0.status, .int .i64 a0.out] ∧ Blk W (w.heap.size + 1) 26 #[.int .i64 a1.P, .int .i64 a1.party, .int .i64 a1.input, .int .i64 a1.mask, .int .i64 a1.delta, .slice p1.sa p1.sn p1.sc, .slice p1.ka p1.kn p1.kc, .int .i64 a1.step, .slice p1.ha p1.hn p1.hc, .int .i64 a1.status, .int .i64 a1.out]) wo)
            clear hK
            try simp only [List.setIfInBounds_toArray, List.set_cons_zero, List.set_cons_succ]
            exact IH.out _ _ _ hS2 ⟨⟨true, l3, l7, l12, l13, .agg #[.int .i64 a0.P, .int .i64 a0.party, .int .i64 a0.input, .int .i64 a0.mask, .int .i64 a0.delta, .slice z'.sa z'.sn z'.sc, .slice z'.ka z'.kn z'.kc, .int .i64 a0.step, .slice z'.ha z'.hn z'.hc, .int .i64 a0.status, .int .i64 a0.out], v3, v7, v12, v13, v8, v9, v10, v11, z', F', x1, F_x1, h0, F_h0, h1, F_h1, bx_h0, bx_h1⟩, rfl, by kernel_rfl, (show InvRunBentHF w22' a0 a1 a2 a3 a4 d0_0 d1_0 d2_0 true l3 l7 l12 l13 (.agg #[.int .i64 a0.P, .int .i64 a0.party, .int .i64 a0.input, .int .i64 a0.mask, .int .i64 a0.delta, .slice z'.sa z'.sn z'.sc, .slice z'.ka z'.kn z'.kc, .int .i64 a0.step, .slice z'.ha z'.hn z'.hc, .int .i64 a0.status, .int .i64 a0.out]) v3 v7 v12 v13 v8 v9 v10 v11 z' F' x1 F_x1 h0 F_h0 h1 F_h1 bx_h0 bx_h1 wo from ⟨((U).trans (u.mono (U).size)), (fun nd3 => (by cases k3_1.out nd3)), (fun nd7 => (by cases k7_1.out nd7)), (fun nd7 => (by cases k7_1.out nd7)), (fun nd1 => rfl), (fun nd1 => n1.lower U.size), (fun nd3 => (by cases k3_1.out nd3)), (fun nd3 => (by cases k3_1.out nd3)), (fun nd7 => (by cases k7_1.out nd7)), (fun nd7 => (by cases k7_1.out nd7)), (fun nd7 => (by cases k7_1.out nd7)), (fun nd7 => (by cases k7_1.out nd7)), (fun nd7 => (by cases k7_1.out nd7)), (fun nd7 => (by cases k7_1.out nd7)), (fun nd7 => (by cases k7_1.out nd7)), (fun nd7 => (by cases k7_1.out nd7)), (fun nd12 => (vq12.out nd12)), (fun nd12 => ((Bx_h0 nd12)).below u), (fun nd12 => ⟨((hb_h0 nd12)).1, Nat.lt_of_lt_of_le ((hb_h0 nd12)).2 u.size⟩), (fun nd7 nd12 => (by cases k7_1.out nd7)), (fun nd7 nd12 => (by cases k7_1.out nd7)), (fun nd13 => (vq13.out nd13)), (fun nd13 => ((Bx_h1 nd13)).below u), (fun nd13 => ⟨((hb_h1 nd13)).1, Nat.lt_of_lt_of_le ((hb_h1 nd13)).2 u.size⟩), (fun nd7 nd13 => (by cases k7_1.out nd7)), (fun nd7 nd13 => (by cases k7_1.out nd7)), (fun nd12 nd13 => (hne_h0_1 nd12 nd13))⟩)⟩
          refine StepsG.cons (o := { dst := some 135, op := _, type := _, pos := _, after := _, guard := _ }) rfl ?_ ?_
          · intro nG lJ aJ wi K IH hS hJ hz0 hd hK
            obtain ⟨dJ, hJ⟩ := hJ
            obtain ⟨e1, hJ⟩ := hJ
            obtain ⟨e2, hF⟩ := hJ
            subst e1
            subst e2
            cases dJ with | mk l1 l3 l7 l12 l13 v1 v3 v7 v12 v13 v8 v9 v10 v11 x0 F_x0 x1 F_x1 h0 F_h0 h1 F_h1 bx_h0 bx_h1 =>
            replace hF : InvRunBentHF w22' a0 a1 a2 a3 a4 d0_0 d1_0 d2_0 l1 l3 l7 l12 l13 v1 v3 v7 v12 v13 v8 v9 v10 v11 x0 F_x0 x1 F_x1 h0 F_h0 h1 F_h1 bx_h0 bx_h1 wi := hF
            have U := hF.U
            have k3_1 := hF.k3_1
            have k7_1 := hF.k7_1
            have k7_3 := hF.k7_3
            have vq1 := hF.vq1
            have ox0 := hF.ox0
            have vq3 := hF.vq3
            have ox1 := hF.ox1
            have vq7 := hF.vq7
            have vq8 := hF.vq8
            have vq9 := hF.vq9
            have vq10 := hF.vq10
            have vq11 := hF.vq11
            have oh0 := hF.oh0
            have oh1 := hF.oh1
            have dj_h0_h1 := hF.dj_h0_h1
            have vq12 := hF.vq12
            have Bx_h0 := hF.Bx_h0
            have hb_h0 := hF.hb_h0
            have N_h0_0 := hF.N_h0_0
            have N_h1_0 := hF.N_h1_0
            have vq13 := hF.vq13
            have Bx_h1 := hF.Bx_h1
            have hb_h1 := hF.hb_h1
            have N_h0_1 := hF.N_h0_1
            have N_h1_1 := hF.N_h1_1
            have hne_h0_1 := hF.hne_h0_1
            clear hF
            have e0 : l3 = false := hz0; subst e0
            have e1 : l1 = true := hd 1 (by kernel_rfl); subst e1
            clear hz0 hd
            have B_p0 := hS.1
            have B_p1 := hS.2
            clear hS
            (try simp only [Act.put, List.setIfInBounds_toArray, List.set_cons_zero, List.set_cons_succ])
            replace k3_1 := Lib.hid k3_1
            replace k7_1 := Lib.hid k7_1
            replace k7_3 := Lib.hid k7_3
            replace vq1 := Lib.hid vq1
            replace vq10 := Lib.hid vq10
            replace vq11 := Lib.hid vq11
            replace vq12 := Lib.hid vq12
            replace vq13 := Lib.hid vq13
            replace vq3 := Lib.hid vq3
            replace vq7 := Lib.hid vq7
            replace vq8 := Lib.hid vq8
            replace vq9 := Lib.hid vq9
            go_simp
            refine (toPlayer_o a1 p1 _ (z1.below (V_w22'.trans (U.mono V_w22'.size))) ht1).mono ?_
            rintro e wo ⟨z', F', rfl, n1, u⟩
            replace B_p0 := (B_p0).below u
            replace B_p1 := (B_p1).below u
            refine hK.out _ _ ⟨B_p0, B_p1⟩ ?_
            have hS2 := (⟨B_p0, B_p1⟩ : (fun W => Blk W (w.heap.size) 26 #[.int .i64 a0.P, .int .i64 a0.party, .int .i64 a0.input, .int .i64 a0.mask, .int .i64 a0.delta, .slice p0.sa p0.sn p0.sc, .slice p0.ka p0.kn p0.kc, .int .i64 a0.step, .slice p0.ha p0.hn p0.hc, .int .i64 a0.status, .int .i64 a0.out] ∧ Blk W (w.heap.size + 1) 26 #[.int .i64 a1.P, .int .i64 a1.party, .int .i64 a1.input, .int .i64 a1.mask, .int .i64 a1.delta, .slice p1.sa p1.sn p1.sc, .slice p1.ka p1.kn p1.kc, .int .i64 a1.step, .slice p1.ha p1.hn p1.hc, .int .i64 a1.status, .int .i64 a1.out]) wo)
            clear hK
            try simp only [List.setIfInBounds_toArray, List.set_cons_zero, List.set_cons_succ]
            exact IH.out _ _ _ hS2 ⟨⟨true, true, l7, l12, l13, v1, .agg #[.int .i64 a1.P, .int .i64 a1.party, .int .i64 a1.input, .int .i64 a1.mask, .int .i64 a1.delta, .slice z'.sa z'.sn z'.sc, .slice z'.ka z'.kn z'.kc, .int .i64 a1.step, .slice z'.ha z'.hn z'.hc, .int .i64 a1.status, .int .i64 a1.out], v7, v12, v13, v8, v9, v10, v11, x0, F_x0, z', F', h0, F_h0, h1, F_h1, bx_h0, bx_h1⟩, rfl, by kernel_rfl, (show InvRunBentHF w22' a0 a1 a2 a3 a4 d0_0 d1_0 d2_0 true true l7 l12 l13 v1 (.agg #[.int .i64 a1.P, .int .i64 a1.party, .int .i64 a1.input, .int .i64 a1.mask, .int .i64 a1.delta, .slice z'.sa z'.sn z'.sc, .slice z'.ka z'.kn z'.kc, .int .i64 a1.step, .slice z'.ha z'.hn z'.hc, .int .i64 a1.status, .int .i64 a1.out]) v7 v12 v13 v8 v9 v10 v11 x0 F_x0 z' F' h0 F_h0 h1 F_h1 bx_h0 bx_h1 wo from ⟨((U).trans (u.mono (U).size)), (fun nd3 => rfl), (fun nd7 => (by cases k7_3.out nd7)), (fun nd7 => (by cases k7_3.out nd7)), (fun nd1 => (vq1.out nd1)), (fun nd1 => ((ox0 nd1)).below u), (fun nd3 => rfl), (fun nd3 => n1.lower U.size), (fun nd7 => (by cases k7_3.out nd7)), (fun nd7 => (by cases k7_3.out nd7)), (fun nd7 => (by cases k7_3.out nd7)), (fun nd7 => (by cases k7_3.out nd7)), (fun nd7 => (by cases k7_3.out nd7)), (fun nd7 => (by cases k7_3.out nd7)), (fun nd7 => (by cases k7_3.out nd7)), (fun nd7 => (by cases k7_3.out nd7)), (fun nd12 => (vq12.out nd12)), (fun nd12 => ((Bx_h0 nd12)).below u), (fun nd12 => ⟨((hb_h0 nd12)).1, Nat.lt_of_lt_of_le ((hb_h0 nd12)).2 u.size⟩), (fun nd7 nd12 => (by cases k7_3.out nd7)), (fun nd7 nd12 => (by cases k7_3.out nd7)), (fun nd13 => (vq13.out nd13)), (fun nd13 => ((Bx_h1 nd13)).below u), (fun nd13 => ⟨((hb_h1 nd13)).1, Nat.lt_of_lt_of_le ((hb_h1 nd13)).2 u.size⟩), (fun nd7 nd13 => (by cases k7_3.out nd7)), (fun nd7 nd13 => (by cases k7_3.out nd7)), (fun nd12 nd13 => (hne_h0_1 nd12 nd13))⟩)⟩
          refine StepsG.cons (o := { dst := some 139, op := _, type := _, pos := _, after := _, guard := _ }) rfl ?_ ?_
          · intro nG lJ aJ wi K IH hS hJ hz0 hd hK
            obtain ⟨dJ, hJ⟩ := hJ
            obtain ⟨e1, hJ⟩ := hJ
            obtain ⟨e2, hF⟩ := hJ
            subst e1
            subst e2
            cases dJ with | mk l1 l3 l7 l12 l13 v1 v3 v7 v12 v13 v8 v9 v10 v11 x0 F_x0 x1 F_x1 h0 F_h0 h1 F_h1 bx_h0 bx_h1 =>
            replace hF : InvRunBentHF w22' a0 a1 a2 a3 a4 d0_0 d1_0 d2_0 l1 l3 l7 l12 l13 v1 v3 v7 v12 v13 v8 v9 v10 v11 x0 F_x0 x1 F_x1 h0 F_h0 h1 F_h1 bx_h0 bx_h1 wi := hF
            have U := hF.U
            have k3_1 := hF.k3_1
            have k7_1 := hF.k7_1
            have k7_3 := hF.k7_3
            have vq1 := hF.vq1
            have ox0 := hF.ox0
            have vq3 := hF.vq3
            have ox1 := hF.ox1
            have vq7 := hF.vq7
            have vq8 := hF.vq8
            have vq9 := hF.vq9
            have vq10 := hF.vq10
            have vq11 := hF.vq11
            have oh0 := hF.oh0
            have oh1 := hF.oh1
            have dj_h0_h1 := hF.dj_h0_h1
            have vq12 := hF.vq12
            have Bx_h0 := hF.Bx_h0
            have hb_h0 := hF.hb_h0
            have N_h0_0 := hF.N_h0_0
            have N_h1_0 := hF.N_h1_0
            have vq13 := hF.vq13
            have Bx_h1 := hF.Bx_h1
            have hb_h1 := hF.hb_h1
            have N_h0_1 := hF.N_h0_1
            have N_h1_1 := hF.N_h1_1
            have hne_h0_1 := hF.hne_h0_1
            clear hF
            have e0 : l7 = false := hz0; subst e0
            have e1 : l1 = true := hd 1 (by kernel_rfl); subst e1
            have e3 : l3 = true := hd 3 (by kernel_rfl); subst e3
            clear hz0 hd
            have B_p0 := hS.1
            have B_p1 := hS.2
            clear hS
            (try simp only [Act.put, List.setIfInBounds_toArray, List.set_cons_zero, List.set_cons_succ])
            have g' := vq1 rfl; subst g'
            have g' := vq3 rfl; subst g'
            replace k3_1 := Lib.hid k3_1
            replace k7_1 := Lib.hid k7_1
            replace k7_3 := Lib.hid k7_3
            replace vq1 := Lib.hid vq1
            replace vq10 := Lib.hid vq10
            replace vq11 := Lib.hid vq11
            replace vq12 := Lib.hid vq12
            replace vq13 := Lib.hid vq13
            replace vq3 := Lib.hid vq3
            replace vq7 := Lib.hid vq7
            replace vq8 := Lib.hid vq8
            replace vq9 := Lib.hid vq9
            go_simp
            refine (CI.out _ _ _ (ox0 rfl).rd (ox1 rfl).rd (LX.out.below (V_w22'.trans (U.mono V_w22'.size)))).mono ?_
            rintro e wo ⟨h0', F_h0', h1', F_h1', rfl, n0, n1, dj_h0_h1', u⟩
            replace B_p0 := (B_p0).below u
            replace B_p1 := (B_p1).below u
            refine hK.out _ _ ⟨B_p0, B_p1⟩ ?_
            have hS2 := (⟨B_p0, B_p1⟩ : (fun W => Blk W (w.heap.size) 26 #[.int .i64 a0.P, .int .i64 a0.party, .int .i64 a0.input, .int .i64 a0.mask, .int .i64 a0.delta, .slice p0.sa p0.sn p0.sc, .slice p0.ka p0.kn p0.kc, .int .i64 a0.step, .slice p0.ha p0.hn p0.hc, .int .i64 a0.status, .int .i64 a0.out] ∧ Blk W (w.heap.size + 1) 26 #[.int .i64 a1.P, .int .i64 a1.party, .int .i64 a1.input, .int .i64 a1.mask, .int .i64 a1.delta, .slice p1.sa p1.sn p1.sc, .slice p1.ka p1.kn p1.kc, .int .i64 a1.step, .slice p1.ha p1.hn p1.hc, .int .i64 a1.status, .int .i64 a1.out]) wo)
            clear hK
            try simp only [List.setIfInBounds_toArray, List.set_cons_zero, List.set_cons_succ]
            refine GoI.take (i := 8) (oi := { dst := some 131, op := _, type := _, pos := _, after := _, guard := _ }) (v := .tuple #[.agg #[.int .i64 d0_0.P, .int .i64 d0_0.party, .int .i64 d0_0.input, .int .i64 d0_0.mask, .int .i64 d0_0.delta, .slice h0'.sa h0'.sn h0'.sc, .slice h0'.ka h0'.kn h0'.kc, .int .i64 d0_0.step, .slice h0'.ha h0'.hn h0'.hc, .int .i64 d0_0.status, .int .i64 d0_0.out], .agg #[.int .i64 d1_0.P, .int .i64 d1_0.party, .int .i64 d1_0.input, .int .i64 d1_0.mask, .int .i64 d1_0.delta, .slice h1'.sa h1'.sn h1'.sc, .slice h1'.ka h1'.kn h1'.kc, .int .i64 d1_0.step, .slice h1'.ha h1'.hn h1'.hc, .int .i64 d1_0.status, .int .i64 d1_0.out], .bool d2_0]) rfl (by kernel_rfl) (by cases l12 <;> cases l13 <;> kernel_rfl) (by cases l12 <;> cases l13 <;> kernel_rfl) (fun _ _ _ h => h) (Or.inl ⟨by rfl, by intro w _; first | (go_simp; done) | (go_simp; with_reducible rfl) | (with_reducible rfl)⟩) hS2 ?_
            (try simp only [Act.put, List.setIfInBounds_toArray, List.set_cons_zero, List.set_cons_succ])
            refine GoI.take (i := 9) (oi := { dst := some 140, op := _, type := _, pos := _, after := _, guard := _ }) (v := .agg #[.int .i64 d0_0.P, .int .i64 d0_0.party, .int .i64 d0_0.input, .int .i64 d0_0.mask, .int .i64 d0_0.delta, .slice h0'.sa h0'.sn h0'.sc, .slice h0'.ka h0'.kn h0'.kc, .int .i64 d0_0.step, .slice h0'.ha h0'.hn h0'.hc, .int .i64 d0_0.status, .int .i64 d0_0.out]) rfl (by kernel_rfl) (by cases l12 <;> cases l13 <;> kernel_rfl) (by cases l12 <;> cases l13 <;> kernel_rfl) (fun _ _ _ h => h) (Or.inl ⟨by rfl, by intro w _; first | (go_simp; done) | (go_simp; with_reducible rfl) | (with_reducible rfl)⟩) hS2 ?_
            (try simp only [Act.put, List.setIfInBounds_toArray, List.set_cons_zero, List.set_cons_succ])
            refine GoI.take (i := 10) (oi := { dst := some 141, op := _, type := _, pos := _, after := _, guard := _ }) (v := .agg #[.int .i64 d1_0.P, .int .i64 d1_0.party, .int .i64 d1_0.input, .int .i64 d1_0.mask, .int .i64 d1_0.delta, .slice h1'.sa h1'.sn h1'.sc, .slice h1'.ka h1'.kn h1'.kc, .int .i64 d1_0.step, .slice h1'.ha h1'.hn h1'.hc, .int .i64 d1_0.status, .int .i64 d1_0.out]) rfl (by kernel_rfl) (by cases l12 <;> cases l13 <;> kernel_rfl) (by cases l12 <;> cases l13 <;> kernel_rfl) (fun _ _ _ h => h) (Or.inl ⟨by rfl, by intro w _; first | (go_simp; done) | (go_simp; with_reducible rfl) | (with_reducible rfl)⟩) hS2 ?_
            (try simp only [Act.put, List.setIfInBounds_toArray, List.set_cons_zero, List.set_cons_succ])
            refine GoI.take (i := 11) (oi := { dst := some 142, op := _, type := _, pos := _, after := _, guard := _ }) (v := .bool d2_0) rfl (by kernel_rfl) (by cases l12 <;> cases l13 <;> kernel_rfl) (by cases l12 <;> cases l13 <;> kernel_rfl) (fun _ _ _ h => h) (Or.inl ⟨by rfl, by intro w _; first | (go_simp; done) | (go_simp; with_reducible rfl) | (with_reducible rfl)⟩) hS2 ?_
            (try simp only [Act.put, List.setIfInBounds_toArray, List.set_cons_zero, List.set_cons_succ])
            exact IH.out _ _ _ hS2 ⟨⟨true, true, true, l12, l13, .agg #[.int .i64 a0.P, .int .i64 a0.party, .int .i64 a0.input, .int .i64 a0.mask, .int .i64 a0.delta, .slice x0.sa x0.sn x0.sc, .slice x0.ka x0.kn x0.kc, .int .i64 a0.step, .slice x0.ha x0.hn x0.hc, .int .i64 a0.status, .int .i64 a0.out], .agg #[.int .i64 a1.P, .int .i64 a1.party, .int .i64 a1.input, .int .i64 a1.mask, .int .i64 a1.delta, .slice x1.sa x1.sn x1.sc, .slice x1.ka x1.kn x1.kc, .int .i64 a1.step, .slice x1.ha x1.hn x1.hc, .int .i64 a1.status, .int .i64 a1.out], .tuple #[.agg #[.int .i64 d0_0.P, .int .i64 d0_0.party, .int .i64 d0_0.input, .int .i64 d0_0.mask, .int .i64 d0_0.delta, .slice h0'.sa h0'.sn h0'.sc, .slice h0'.ka h0'.kn h0'.kc, .int .i64 d0_0.step, .slice h0'.ha h0'.hn h0'.hc, .int .i64 d0_0.status, .int .i64 d0_0.out], .agg #[.int .i64 d1_0.P, .int .i64 d1_0.party, .int .i64 d1_0.input, .int .i64 d1_0.mask, .int .i64 d1_0.delta, .slice h1'.sa h1'.sn h1'.sc, .slice h1'.ka h1'.kn h1'.kc, .int .i64 d1_0.step, .slice h1'.ha h1'.hn h1'.hc, .int .i64 d1_0.status, .int .i64 d1_0.out], .bool d2_0], v12, v13, .tuple #[.agg #[.int .i64 d0_0.P, .int .i64 d0_0.party, .int .i64 d0_0.input, .int .i64 d0_0.mask, .int .i64 d0_0.delta, .slice h0'.sa h0'.sn h0'.sc, .slice h0'.ka h0'.kn h0'.kc, .int .i64 d0_0.step, .slice h0'.ha h0'.hn h0'.hc, .int .i64 d0_0.status, .int .i64 d0_0.out], .agg #[.int .i64 d1_0.P, .int .i64 d1_0.party, .int .i64 d1_0.input, .int .i64 d1_0.mask, .int .i64 d1_0.delta, .slice h1'.sa h1'.sn h1'.sc, .slice h1'.ka h1'.kn h1'.kc, .int .i64 d1_0.step, .slice h1'.ha h1'.hn h1'.hc, .int .i64 d1_0.status, .int .i64 d1_0.out], .bool d2_0], .agg #[.int .i64 d0_0.P, .int .i64 d0_0.party, .int .i64 d0_0.input, .int .i64 d0_0.mask, .int .i64 d0_0.delta, .slice h0'.sa h0'.sn h0'.sc, .slice h0'.ka h0'.kn h0'.kc, .int .i64 d0_0.step, .slice h0'.ha h0'.hn h0'.hc, .int .i64 d0_0.status, .int .i64 d0_0.out], .agg #[.int .i64 d1_0.P, .int .i64 d1_0.party, .int .i64 d1_0.input, .int .i64 d1_0.mask, .int .i64 d1_0.delta, .slice h1'.sa h1'.sn h1'.sc, .slice h1'.ka h1'.kn h1'.kc, .int .i64 d1_0.step, .slice h1'.ha h1'.hn h1'.hc, .int .i64 d1_0.status, .int .i64 d1_0.out], .bool d2_0, x0, F_x0, x1, F_x1, h0', F_h0', h1', F_h1', bx_h0, bx_h1⟩, rfl, by kernel_rfl, (show InvRunBentHF w22' a0 a1 a2 a3 a4 d0_0 d1_0 d2_0 true true true l12 l13 (.agg #[.int .i64 a0.P, .int .i64 a0.party, .int .i64 a0.input, .int .i64 a0.mask, .int .i64 a0.delta, .slice x0.sa x0.sn x0.sc, .slice x0.ka x0.kn x0.kc, .int .i64 a0.step, .slice x0.ha x0.hn x0.hc, .int .i64 a0.status, .int .i64 a0.out]) (.agg #[.int .i64 a1.P, .int .i64 a1.party, .int .i64 a1.input, .int .i64 a1.mask, .int .i64 a1.delta, .slice x1.sa x1.sn x1.sc, .slice x1.ka x1.kn x1.kc, .int .i64 a1.step, .slice x1.ha x1.hn x1.hc, .int .i64 a1.status, .int .i64 a1.out]) (.tuple #[.agg #[.int .i64 d0_0.P, .int .i64 d0_0.party, .int .i64 d0_0.input, .int .i64 d0_0.mask, .int .i64 d0_0.delta, .slice h0'.sa h0'.sn h0'.sc, .slice h0'.ka h0'.kn h0'.kc, .int .i64 d0_0.step, .slice h0'.ha h0'.hn h0'.hc, .int .i64 d0_0.status, .int .i64 d0_0.out], .agg #[.int .i64 d1_0.P, .int .i64 d1_0.party, .int .i64 d1_0.input, .int .i64 d1_0.mask, .int .i64 d1_0.delta, .slice h1'.sa h1'.sn h1'.sc, .slice h1'.ka h1'.kn h1'.kc, .int .i64 d1_0.step, .slice h1'.ha h1'.hn h1'.hc, .int .i64 d1_0.status, .int .i64 d1_0.out], .bool d2_0]) v12 v13 (.tuple #[.agg #[.int .i64 d0_0.P, .int .i64 d0_0.party, .int .i64 d0_0.input, .int .i64 d0_0.mask, .int .i64 d0_0.delta, .slice h0'.sa h0'.sn h0'.sc, .slice h0'.ka h0'.kn h0'.kc, .int .i64 d0_0.step, .slice h0'.ha h0'.hn h0'.hc, .int .i64 d0_0.status, .int .i64 d0_0.out], .agg #[.int .i64 d1_0.P, .int .i64 d1_0.party, .int .i64 d1_0.input, .int .i64 d1_0.mask, .int .i64 d1_0.delta, .slice h1'.sa h1'.sn h1'.sc, .slice h1'.ka h1'.kn h1'.kc, .int .i64 d1_0.step, .slice h1'.ha h1'.hn h1'.hc, .int .i64 d1_0.status, .int .i64 d1_0.out], .bool d2_0]) (.agg #[.int .i64 d0_0.P, .int .i64 d0_0.party, .int .i64 d0_0.input, .int .i64 d0_0.mask, .int .i64 d0_0.delta, .slice h0'.sa h0'.sn h0'.sc, .slice h0'.ka h0'.kn h0'.kc, .int .i64 d0_0.step, .slice h0'.ha h0'.hn h0'.hc, .int .i64 d0_0.status, .int .i64 d0_0.out]) (.agg #[.int .i64 d1_0.P, .int .i64 d1_0.party, .int .i64 d1_0.input, .int .i64 d1_0.mask, .int .i64 d1_0.delta, .slice h1'.sa h1'.sn h1'.sc, .slice h1'.ka h1'.kn h1'.kc, .int .i64 d1_0.step, .slice h1'.ha h1'.hn h1'.hc, .int .i64 d1_0.status, .int .i64 d1_0.out]) (.bool d2_0) x0 F_x0 x1 F_x1 h0' F_h0' h1' F_h1' bx_h0 bx_h1 wo from ⟨((U).trans (u.mono (U).size)), (fun nd3 => (k3_1.out nd3)), (fun nd7 => rfl), (fun nd7 => rfl), (fun nd1 => (vq1.out nd1)), (fun nd1 => ((ox0 nd1)).below u), (fun nd3 => (vq3.out nd3)), (fun nd3 => ((ox1 nd3)).below u), (fun nd7 => rfl), (fun nd7 => rfl), (fun nd7 => rfl), (fun nd7 => rfl), (fun nd7 => rfl), (fun nd7 => n0.lower U.size), (fun nd7 => n1.lower U.size), (fun nd7 => dj_h0_h1'), (fun nd12 => (vq12.out nd12)), (fun nd12 => ((Bx_h0 nd12)).below u), (fun nd12 => ⟨((hb_h0 nd12)).1, Nat.lt_of_lt_of_le ((hb_h0 nd12)).2 u.size⟩), (fun nd7 nd12 => fun k hk => by have := n0.feet k hk; have := (hb_h0 nd12).2; omega), (fun nd7 nd12 => fun k hk => by have := n1.feet k hk; have := (hb_h0 nd12).2; omega), (fun nd13 => (vq13.out nd13)), (fun nd13 => ((Bx_h1 nd13)).below u), (fun nd13 => ⟨((hb_h1 nd13)).1, Nat.lt_of_lt_of_le ((hb_h1 nd13)).2 u.size⟩), (fun nd7 nd13 => fun k hk => by have := n0.feet k hk; have := (hb_h1 nd13).2; omega), (fun nd7 nd13 => fun k hk => by have := n1.feet k hk; have := (hb_h1 nd13).2; omega), (fun nd12 nd13 => (hne_h0_1 nd12 nd13))⟩)⟩
          refine StepsG.cons (o := { dst := some 23, op := _, type := _, pos := _, after := _, guard := _ }) rfl ?_ ?_
          · intro nG lJ aJ wi K IH hS hJ hz0 hd hK
            obtain ⟨dJ, hJ⟩ := hJ
            obtain ⟨e1, hJ⟩ := hJ
            obtain ⟨e2, hF⟩ := hJ
            subst e1
            subst e2
            cases dJ with | mk l1 l3 l7 l12 l13 v1 v3 v7 v12 v13 v8 v9 v10 v11 x0 F_x0 x1 F_x1 h0 F_h0 h1 F_h1 bx_h0 bx_h1 =>
            replace hF : InvRunBentHF w22' a0 a1 a2 a3 a4 d0_0 d1_0 d2_0 l1 l3 l7 l12 l13 v1 v3 v7 v12 v13 v8 v9 v10 v11 x0 F_x0 x1 F_x1 h0 F_h0 h1 F_h1 bx_h0 bx_h1 wi := hF
            have U := hF.U
            have k3_1 := hF.k3_1
            have k7_1 := hF.k7_1
            have k7_3 := hF.k7_3
            have vq1 := hF.vq1
            have ox0 := hF.ox0
            have vq3 := hF.vq3
            have ox1 := hF.ox1
            have vq7 := hF.vq7
            have vq8 := hF.vq8
            have vq9 := hF.vq9
            have vq10 := hF.vq10
            have vq11 := hF.vq11
            have oh0 := hF.oh0
            have oh1 := hF.oh1
            have dj_h0_h1 := hF.dj_h0_h1
            have vq12 := hF.vq12
            have Bx_h0 := hF.Bx_h0
            have hb_h0 := hF.hb_h0
            have N_h0_0 := hF.N_h0_0
            have N_h1_0 := hF.N_h1_0
            have vq13 := hF.vq13
            have Bx_h1 := hF.Bx_h1
            have hb_h1 := hF.hb_h1
            have N_h0_1 := hF.N_h0_1
            have N_h1_1 := hF.N_h1_1
            have hne_h0_1 := hF.hne_h0_1
            clear hF
            have e0 : l12 = false := hz0; subst e0
            clear hz0 hd
            have B_p0 := hS.1
            have B_p1 := hS.2
            clear hS
            (try simp only [Act.put, List.setIfInBounds_toArray, List.set_cons_zero, List.set_cons_succ])
            replace k3_1 := Lib.hid k3_1
            replace k7_1 := Lib.hid k7_1
            replace k7_3 := Lib.hid k7_3
            replace vq1 := Lib.hid vq1
            replace vq10 := Lib.hid vq10
            replace vq11 := Lib.hid vq11
            replace vq12 := Lib.hid vq12
            replace vq13 := Lib.hid vq13
            replace vq3 := Lib.hid vq3
            replace vq7 := Lib.hid vq7
            replace vq8 := Lib.hid vq8
            replace vq9 := Lib.hid vq9
            go_simp
            refine Exists.elim (Blk.new_ wi rfl 31 #[.int .i64 0, .int .i64 0, .int .i64 0, .int .i64 0, .int .i64 0, .slice none 0 0, .slice none 0 0, .int .i64 0, .slice none 0 0, .int .i64 0, .int .i64 0]) (fun wo q => ?_)
            rw [q.1]
            have B_h0 := q.2.1; have u := q.2.2.2; have ha : wi.heap.size < wo.heap.size := Nat.le_of_eq q.2.2.1.symm; clear q
            replace B_p0 := (B_p0).below u
            replace B_p1 := (B_p1).below u
            refine hK.out _ _ ⟨B_p0, B_p1⟩ ?_
            have hS2 := (⟨B_p0, B_p1⟩ : (fun W => Blk W (w.heap.size) 26 #[.int .i64 a0.P, .int .i64 a0.party, .int .i64 a0.input, .int .i64 a0.mask, .int .i64 a0.delta, .slice p0.sa p0.sn p0.sc, .slice p0.ka p0.kn p0.kc, .int .i64 a0.step, .slice p0.ha p0.hn p0.hc, .int .i64 a0.status, .int .i64 a0.out] ∧ Blk W (w.heap.size + 1) 26 #[.int .i64 a1.P, .int .i64 a1.party, .int .i64 a1.input, .int .i64 a1.mask, .int .i64 a1.delta, .slice p1.sa p1.sn p1.sc, .slice p1.ka p1.kn p1.kc, .int .i64 a1.step, .slice p1.ha p1.hn p1.hc, .int .i64 a1.status, .int .i64 a1.out]) wo)
            clear hK
            try simp only [List.setIfInBounds_toArray, List.set_cons_zero, List.set_cons_succ]
            exact IH.out _ _ _ hS2 ⟨⟨l1, l3, l7, true, l13, v1, v3, v7, .pointer (some ⟨wi.heap.size, 0, none⟩), v13, v8, v9, v10, v11, x0, F_x0, x1, F_x1, h0, F_h0, h1, F_h1, wi.heap.size, bx_h1⟩, rfl, by kernel_rfl, (show InvRunBentHF w22' a0 a1 a2 a3 a4 d0_0 d1_0 d2_0 l1 l3 l7 true l13 v1 v3 v7 (.pointer (some ⟨wi.heap.size, 0, none⟩)) v13 v8 v9 v10 v11 x0 F_x0 x1 F_x1 h0 F_h0 h1 F_h1 wi.heap.size bx_h1 wo from ⟨((U).trans (u.mono (U).size)), (fun nd3 => (k3_1.out nd3)), (fun nd7 => (k7_1.out nd7)), (fun nd7 => (k7_3.out nd7)), (fun nd1 => (vq1.out nd1)), (fun nd1 => ((ox0 nd1)).below u), (fun nd3 => (vq3.out nd3)), (fun nd3 => ((ox1 nd3)).below u), (fun nd7 => (vq7.out nd7)), (fun nd7 => (vq8.out nd7)), (fun nd7 => (vq9.out nd7)), (fun nd7 => (vq10.out nd7)), (fun nd7 => (vq11.out nd7)), (fun nd7 => ((oh0 nd7)).below u), (fun nd7 => ((oh1 nd7)).below u), (fun nd7 => (dj_h0_h1 nd7)), (fun nd12 => rfl), (fun nd12 => B_h0), (fun nd12 => ⟨U.size, ha⟩), (fun nd7 nd12 => fun k hk => by have := (oh0 nd7).feet k hk; omega), (fun nd7 nd12 => fun k hk => by have := (oh1 nd7).feet k hk; omega), (fun nd13 => (vq13.out nd13)), (fun nd13 => ((Bx_h1 nd13)).below u), (fun nd13 => ⟨((hb_h1 nd13)).1, Nat.lt_of_lt_of_le ((hb_h1 nd13)).2 u.size⟩), (fun nd7 nd13 => (N_h0_1 nd7 nd13)), (fun nd7 nd13 => (N_h1_1 nd7 nd13)), (fun nd12 nd13 => by have := (hb_h1 nd13).2; omega)⟩)⟩
          refine StepsG.cons (o := { dst := some 24, op := _, type := _, pos := _, after := _, guard := _ }) rfl ?_ ?_
          · intro nG lJ aJ wi K IH hS hJ hz0 hd hK
            obtain ⟨dJ, hJ⟩ := hJ
            obtain ⟨e1, hJ⟩ := hJ
            obtain ⟨e2, hF⟩ := hJ
            subst e1
            subst e2
            cases dJ with | mk l1 l3 l7 l12 l13 v1 v3 v7 v12 v13 v8 v9 v10 v11 x0 F_x0 x1 F_x1 h0 F_h0 h1 F_h1 bx_h0 bx_h1 =>
            replace hF : InvRunBentHF w22' a0 a1 a2 a3 a4 d0_0 d1_0 d2_0 l1 l3 l7 l12 l13 v1 v3 v7 v12 v13 v8 v9 v10 v11 x0 F_x0 x1 F_x1 h0 F_h0 h1 F_h1 bx_h0 bx_h1 wi := hF
            have U := hF.U
            have k3_1 := hF.k3_1
            have k7_1 := hF.k7_1
            have k7_3 := hF.k7_3
            have vq1 := hF.vq1
            have ox0 := hF.ox0
            have vq3 := hF.vq3
            have ox1 := hF.ox1
            have vq7 := hF.vq7
            have vq8 := hF.vq8
            have vq9 := hF.vq9
            have vq10 := hF.vq10
            have vq11 := hF.vq11
            have oh0 := hF.oh0
            have oh1 := hF.oh1
            have dj_h0_h1 := hF.dj_h0_h1
            have vq12 := hF.vq12
            have Bx_h0 := hF.Bx_h0
            have hb_h0 := hF.hb_h0
            have N_h0_0 := hF.N_h0_0
            have N_h1_0 := hF.N_h1_0
            have vq13 := hF.vq13
            have Bx_h1 := hF.Bx_h1
            have hb_h1 := hF.hb_h1
            have N_h0_1 := hF.N_h0_1
            have N_h1_1 := hF.N_h1_1
            have hne_h0_1 := hF.hne_h0_1
            clear hF
            have e0 : l13 = false := hz0; subst e0
            clear hz0 hd
            have B_p0 := hS.1
            have B_p1 := hS.2
            clear hS
            (try simp only [Act.put, List.setIfInBounds_toArray, List.set_cons_zero, List.set_cons_succ])
            replace k3_1 := Lib.hid k3_1
            replace k7_1 := Lib.hid k7_1
            replace k7_3 := Lib.hid k7_3
            replace vq1 := Lib.hid vq1
            replace vq10 := Lib.hid vq10
            replace vq11 := Lib.hid vq11
            replace vq12 := Lib.hid vq12
            replace vq13 := Lib.hid vq13
            replace vq3 := Lib.hid vq3
            replace vq7 := Lib.hid vq7
            replace vq8 := Lib.hid vq8
            replace vq9 := Lib.hid vq9
            go_simp
            refine Exists.elim (Blk.new_ wi rfl 31 #[.int .i64 0, .int .i64 0, .int .i64 0, .int .i64 0, .int .i64 0, .slice none 0 0, .slice none 0 0, .int .i64 0, .slice none 0 0, .int .i64 0, .int .i64 0]) (fun wo q => ?_)
            rw [q.1]
            have B_h1 := q.2.1; have u := q.2.2.2; have ha : wi.heap.size < wo.heap.size := Nat.le_of_eq q.2.2.1.symm; clear q
            replace B_p0 := (B_p0).below u
            replace B_p1 := (B_p1).below u
            refine hK.out _ _ ⟨B_p0, B_p1⟩ ?_
            have hS2 := (⟨B_p0, B_p1⟩ : (fun W => Blk W (w.heap.size) 26 #[.int .i64 a0.P, .int .i64 a0.party, .int .i64 a0.input, .int .i64 a0.mask, .int .i64 a0.delta, .slice p0.sa p0.sn p0.sc, .slice p0.ka p0.kn p0.kc, .int .i64 a0.step, .slice p0.ha p0.hn p0.hc, .int .i64 a0.status, .int .i64 a0.out] ∧ Blk W (w.heap.size + 1) 26 #[.int .i64 a1.P, .int .i64 a1.party, .int .i64 a1.input, .int .i64 a1.mask, .int .i64 a1.delta, .slice p1.sa p1.sn p1.sc, .slice p1.ka p1.kn p1.kc, .int .i64 a1.step, .slice p1.ha p1.hn p1.hc, .int .i64 a1.status, .int .i64 a1.out]) wo)
            clear hK
            try simp only [List.setIfInBounds_toArray, List.set_cons_zero, List.set_cons_succ]
            exact IH.out _ _ _ hS2 ⟨⟨l1, l3, l7, l12, true, v1, v3, v7, v12, .pointer (some ⟨wi.heap.size, 0, none⟩), v8, v9, v10, v11, x0, F_x0, x1, F_x1, h0, F_h0, h1, F_h1, bx_h0, wi.heap.size⟩, rfl, by kernel_rfl, (show InvRunBentHF w22' a0 a1 a2 a3 a4 d0_0 d1_0 d2_0 l1 l3 l7 l12 true v1 v3 v7 v12 (.pointer (some ⟨wi.heap.size, 0, none⟩)) v8 v9 v10 v11 x0 F_x0 x1 F_x1 h0 F_h0 h1 F_h1 bx_h0 wi.heap.size wo from ⟨((U).trans (u.mono (U).size)), (fun nd3 => (k3_1.out nd3)), (fun nd7 => (k7_1.out nd7)), (fun nd7 => (k7_3.out nd7)), (fun nd1 => (vq1.out nd1)), (fun nd1 => ((ox0 nd1)).below u), (fun nd3 => (vq3.out nd3)), (fun nd3 => ((ox1 nd3)).below u), (fun nd7 => (vq7.out nd7)), (fun nd7 => (vq8.out nd7)), (fun nd7 => (vq9.out nd7)), (fun nd7 => (vq10.out nd7)), (fun nd7 => (vq11.out nd7)), (fun nd7 => ((oh0 nd7)).below u), (fun nd7 => ((oh1 nd7)).below u), (fun nd7 => (dj_h0_h1 nd7)), (fun nd12 => (vq12.out nd12)), (fun nd12 => ((Bx_h0 nd12)).below u), (fun nd12 => ⟨((hb_h0 nd12)).1, Nat.lt_of_lt_of_le ((hb_h0 nd12)).2 u.size⟩), (fun nd7 nd12 => (N_h0_0 nd7 nd12)), (fun nd7 nd12 => (N_h1_0 nd7 nd12)), (fun nd13 => rfl), (fun nd13 => B_h1), (fun nd13 => ⟨U.size, ha⟩), (fun nd7 nd13 => fun k hk => by have := (oh0 nd7).feet k hk; omega), (fun nd7 nd13 => fun k hk => by have := (oh1 nd7).feet k hk; omega), (fun nd12 nd13 => by have := (hb_h0 nd12).2; omega)⟩)⟩
          exact StepsG.nil
        case he =>
          intro aJ wc hS hJ
          obtain ⟨dJ, hJ⟩ := hJ
          obtain ⟨hl, hJ⟩ := hJ
          obtain ⟨e2, hF⟩ := hJ
          subst e2
          cases dJ with | mk l1 l3 l7 l12 l13 v1 v3 v7 v12 v13 v8 v9 v10 v11 x0 F_x0 x1 F_x1 h0 F_h0 h1 F_h1 bx_h0 bx_h1 =>
          replace hF : InvRunBentHF w22' a0 a1 a2 a3 a4 d0_0 d1_0 d2_0 l1 l3 l7 l12 l13 v1 v3 v7 v12 v13 v8 v9 v10 v11 x0 F_x0 x1 F_x1 h0 F_h0 h1 F_h1 bx_h0 bx_h1 wc := hF
          have U := hF.U
          have k3_1 := hF.k3_1
          have k7_1 := hF.k7_1
          have k7_3 := hF.k7_3
          have vq1 := hF.vq1
          have ox0 := hF.ox0
          have vq3 := hF.vq3
          have ox1 := hF.ox1
          have vq7 := hF.vq7
          have vq8 := hF.vq8
          have vq9 := hF.vq9
          have vq10 := hF.vq10
          have vq11 := hF.vq11
          have oh0 := hF.oh0
          have oh1 := hF.oh1
          have dj_h0_h1 := hF.dj_h0_h1
          have vq12 := hF.vq12
          have Bx_h0 := hF.Bx_h0
          have hb_h0 := hF.hb_h0
          have N_h0_0 := hF.N_h0_0
          have N_h1_0 := hF.N_h1_0
          have vq13 := hF.vq13
          have Bx_h1 := hF.Bx_h1
          have hb_h1 := hF.hb_h1
          have N_h0_1 := hF.N_h0_1
          have N_h1_1 := hF.N_h1_1
          have hne_h0_1 := hF.hne_h0_1
          clear hF
          have e1 : true = l1 := congrArg (fun q : Array Bool => q.getD 1 true) hl; subst e1
          have e3 : true = l3 := congrArg (fun q : Array Bool => q.getD 3 true) hl; subst e3
          have e7 : true = l7 := congrArg (fun q : Array Bool => q.getD 7 true) hl; subst e7
          have e12 : true = l12 := congrArg (fun q : Array Bool => q.getD 12 true) hl; subst e12
          have e13 : true = l13 := congrArg (fun q : Array Bool => q.getD 13 true) hl; subst e13
          clear hl k3_1 k7_1 k7_3
          replace vq1 := vq1 rfl
          replace ox0 := ox0 rfl
          replace vq3 := vq3 rfl
          replace ox1 := ox1 rfl
          replace vq7 := vq7 rfl
          replace vq8 := vq8 rfl
          replace vq9 := vq9 rfl
          replace vq10 := vq10 rfl
          replace vq11 := vq11 rfl
          replace oh0 := oh0 rfl
          replace oh1 := oh1 rfl
          replace dj_h0_h1 := dj_h0_h1 rfl
          replace vq12 := vq12 rfl
          replace Bx_h0 := Bx_h0 rfl
          replace hb_h0 := hb_h0 rfl
          replace N_h0_0 := N_h0_0 rfl rfl
          replace N_h1_0 := N_h1_0 rfl rfl
          replace vq13 := vq13 rfl
          replace Bx_h1 := Bx_h1 rfl
          replace hb_h1 := hb_h1 rfl
          replace N_h0_1 := N_h0_1 rfl rfl
          replace N_h1_1 := N_h1_1 rfl rfl
          replace hne_h0_1 := hne_h0_1 rfl rfl
          have hHeld := hS
          have B_p0 := hS.1
          have B_p1 := hS.2
          clear hS
          (try simp only [Act.put, List.setIfInBounds_toArray, List.set_cons_zero, List.set_cons_succ])
          subst vq1 vq3 vq7 vq8 vq9 vq10 vq11 vq12 vq13
          have B_h0 := Bx_h0
          clear Bx_h0
          have B_h1 := Bx_h1
          clear Bx_h1
          have Q_oh0 := Lib.hid oh0.feet
          have Q_oh1 := Lib.hid oh1.feet
          have G_all : Only [bx_h0, bx_h1] wc wc := Only.refl _ _
          refine wpAnyH_ready (rs := [14]) (by kernel_rfl) (by simp) ?_
          refine AllReadyH.cons (o := { dst := none, op := _, type := _, pos := _, after := _, guard := _ }) rfl (fun K hK => ?_) ?_
          refine step_st B_h0 (by simp [Region.wanted]) _ _ _ (by rfl) (by rfl) (by rfl) (by kernel_rfl) (by rfl) (by simp [Value.oneCell']) ?_
          intro wS14 B_h0' G
          replace B_h0 := B_h0'; clear B_h0'
          replace B_p0 := B_p0.only G (by first | (simp; done) | (simp; omega))
          replace B_p1 := B_p1.only G (by first | (simp; done) | (simp; omega))
          replace B_h1 := B_h1.only G (by first | (simp; done) | (simp; omega))
          replace oh0 := oh0.only G (fun k hk hk' => by simp at hk'; exact N_h0_0 k hk hk')
          replace oh1 := oh1.only G (fun k hk hk' => by simp at hk'; exact N_h1_0 k hk hk')
          replace G_all := G_all.trans (G.more (F' := [bx_h0, bx_h1]) (by simp))
          clear G
          refine hK.out _ _ ?_ (fun hHeld => ?_)
          · exact ⟨B_p0, B_p1⟩
          clear hK K
          (try simp only [pt_])
          refine wpAnyH_ready (rs := [15]) (by kernel_rfl) (by simp) ?_
          refine AllReadyH.cons (o := { dst := none, op := _, type := _, pos := _, after := _, guard := _ }) rfl (fun K hK => ?_) ?_
          refine step_st B_h1 (by simp [Region.wanted]) _ _ _ (by rfl) (by rfl) (by rfl) (by kernel_rfl) (by rfl) (by simp [Value.oneCell']) ?_
          intro wS15 B_h1' G
          replace B_h1 := B_h1'; clear B_h1'
          replace B_p0 := B_p0.only G (by first | (simp; done) | (simp; omega))
          replace B_p1 := B_p1.only G (by first | (simp; done) | (simp; omega))
          replace B_h0 := B_h0.only G (by first | (simp; done) | (simp; omega))
          replace oh0 := oh0.only G (fun k hk hk' => by simp at hk'; exact N_h0_1 k hk hk')
          replace oh1 := oh1.only G (fun k hk hk' => by simp at hk'; exact N_h1_1 k hk hk')
          replace G_all := G_all.trans (G.more (F' := [bx_h0, bx_h1]) (by simp))
          clear G
          refine hK.out _ _ ?_ (fun hHeld => ?_)
          · exact ⟨B_p0, B_p1⟩
          clear hK K
          (try simp only [pt_])
          refine tk (i := 16) (oi := ⟨some 25, _, _, _, _, _⟩) (v := ?v16_14) hHeld rfl ?y16_14 ?r16_14
          case y16_14 => (intro w _; first | (go_simp; done) | (go_simp; with_reducible rfl) | (with_reducible rfl))
          (try simp only [pt_])
          refine wpAnyH_done (by kernel_rfl) ?_ _
          refine NoPanic.normal ?_
          rotate_left 1
          exact AllReadyH.nil
          exact AllReadyH.nil
          have U2 := U.trans (G_all.below U.size (by intro q hq; simp at hq; omega))
          have SG := G_all.size
          try go_wp2_with fail
          go_meet
          exact ⟨h0, F_h0, h1, F_h1, bx_h0, bx_h1, rfl, rfl, rfl, oh0, oh1, fun k hk => ⟨oh0.feet k hk, N_h0_0 k hk, N_h0_1 k hk⟩, fun k hk => ⟨oh1.feet k hk, N_h1_0 k hk, N_h1_1 k hk⟩, dj_h0_h1, B_h0, B_h1, ⟨by omega, by omega⟩, ⟨by omega, by omega⟩, hne_h0_1, U2⟩
      obtain ⟨h0, F_h0, h1, F_h1, bx_h0, bx_h1, rfl, rfl, rfl, oh0, oh1, Q_oh0, Q_oh1, dj_h0_h1, B_h0, B_h1, hb_h0, hb_h1, hne_h0_1, u_all⟩ := hcut
      generalize wc = w23' at *
      replace B_p0 := B_p0.below u_all
      replace B_p1 := B_p1.below u_all
      replace B_r0 := B_r0.below u_all
      replace B_r1 := B_r1.below u_all
      replace B_g0 := B_g0.below u_all
      replace B_g1 := B_g1.below u_all
      replace or0 := or0.below u_all
      replace or1 := or1.below u_all
      replace og0 := og0.below u_all
      replace og1 := og1.below u_all
      have V_w23' := V_w22'.trans (u_all.mono (V_w22').size)
      have S_w23' := u_all.size
      clear u_all V_w22'
      replace Q_oh0 := Lib.hid Q_oh0
      replace Q_oh1 := Lib.hid Q_oh1
      have e_h0 := B_h0.all11
      have e_r0 := B_r0.all11
      go_wp2_with fail
      clear e_h0 e_r0
      refine (eqPlayer_o d0_0 _ _ _ oh0.rd or0.rd).mono ?_
      rintro e w24' ⟨rfl, u_w24'⟩
      replace B_p0 := B_p0.below u_w24'
      replace B_p1 := B_p1.below u_w24'
      replace B_r0 := B_r0.below u_w24'
      replace B_r1 := B_r1.below u_w24'
      replace B_g0 := B_g0.below u_w24'
      replace B_g1 := B_g1.below u_w24'
      replace B_h0 := B_h0.below u_w24'
      replace B_h1 := B_h1.below u_w24'
      replace or0 := or0.below u_w24'
      replace or1 := or1.below u_w24'
      replace og0 := og0.below u_w24'
      replace og1 := og1.below u_w24'
      replace oh0 := oh0.below u_w24'
      replace oh1 := oh1.below u_w24'
      have V_w24' := V_w23'.trans (u_w24'.mono (V_w23').size)
      have S_w24' := u_w24'.size
      clear u_w24' V_w23'
      have e_h1 := B_h1.all11
      have e_r1 := B_r1.all11
      go_wp2_with fail
      clear e_h1 e_r1
      refine (eqPlayer_o d1_0 _ _ _ oh1.rd or1.rd).mono ?_
      rintro e w25' ⟨rfl, u_w25'⟩
      replace B_p0 := B_p0.below u_w25'
      replace B_p1 := B_p1.below u_w25'
      replace B_r0 := B_r0.below u_w25'
      replace B_r1 := B_r1.below u_w25'
      replace B_g0 := B_g0.below u_w25'
      replace B_g1 := B_g1.below u_w25'
      replace B_h0 := B_h0.below u_w25'
      replace B_h1 := B_h1.below u_w25'
      replace or0 := or0.below u_w25'
      replace or1 := or1.below u_w25'
      replace og0 := og0.below u_w25'
      replace og1 := og1.below u_w25'
      replace oh0 := oh0.below u_w25'
      replace oh1 := oh1.below u_w25'
      have V_w25' := V_w24'.trans (u_w25'.mono (V_w24').size)
      have S_w25' := u_w25'.size
      clear u_w25' V_w24'
      have e_g0 := B_g0.all11
      go_wp2_with fail
      clear e_g0
      refine (heldPlayer_o _ _ _ _ _ _ _ og0.rd U_og0.out (by omega) (by omega)).mono ?_
      rintro e w26' ⟨rfl, u_w26'⟩
      replace B_p0 := B_p0.below u_w26'
      replace B_p1 := B_p1.below u_w26'
      replace B_r0 := B_r0.below u_w26'
      replace B_r1 := B_r1.below u_w26'
      replace B_g0 := B_g0.below u_w26'
      replace B_g1 := B_g1.below u_w26'
      replace B_h0 := B_h0.below u_w26'
      replace B_h1 := B_h1.below u_w26'
      replace or0 := or0.below u_w26'
      replace or1 := or1.below u_w26'
      replace og0 := og0.below u_w26'
      replace og1 := og1.below u_w26'
      replace oh0 := oh0.below u_w26'
      replace oh1 := oh1.below u_w26'
      have V_w26' := V_w25'.trans (u_w26'.mono (V_w25').size)
      have S_w26' := u_w26'.size
      clear u_w26' V_w25'
      have e_g1 := B_g1.all11
      go_wp2_with fail
      clear e_g1
      refine (heldPlayer_o _ _ _ _ _ _ _ og1.rd U_og1.out (by omega) (by omega)).mono ?_
      rintro e w27' ⟨rfl, u_w27'⟩
      replace B_p0 := B_p0.below u_w27'
      replace B_p1 := B_p1.below u_w27'
      replace B_r0 := B_r0.below u_w27'
      replace B_r1 := B_r1.below u_w27'
      replace B_g0 := B_g0.below u_w27'
      replace B_g1 := B_g1.below u_w27'
      replace B_h0 := B_h0.below u_w27'
      replace B_h1 := B_h1.below u_w27'
      replace or0 := or0.below u_w27'
      replace or1 := or1.below u_w27'
      replace og0 := og0.below u_w27'
      replace og1 := og1.below u_w27'
      replace oh0 := oh0.below u_w27'
      replace oh1 := oh1.below u_w27'
      have V_w27' := V_w26'.trans (u_w27'.mono (V_w26').size)
      have S_w27' := u_w27'.size
      clear u_w27' V_w26'
      go_wp2
      go_ret
      exact ⟨rfl, V_w27'⟩
    · skip
      go_enter Tryd.func9, Tryd.ntmps9
      go_wp2_with fail
      refine Exists.elim (Blk.new_ w (b := w.heap.size) rfl 26 #[.int .i64 a0.P, .int .i64 a0.party, .int .i64 a0.input, .int .i64 a0.mask, .int .i64 a0.delta, .slice p0.sa p0.sn p0.sc, .slice p0.ka p0.kn p0.kc, .int .i64 a0.step, .slice p0.ha p0.hn p0.hc, .int .i64 a0.status, .int .i64 a0.out]) (fun w28_a0' q => ?_)
      rw [q.1]; have B_p0 := q.2.1; have s_w28_a0' := q.2.2.1; have u_w28_a0' := q.2.2.2; clear q
      refine Exists.elim (Blk.new_ w28_a0' (b := w.heap.size + 1) s_w28_a0' 26 #[.int .i64 a1.P, .int .i64 a1.party, .int .i64 a1.input, .int .i64 a1.mask, .int .i64 a1.delta, .slice p1.sa p1.sn p1.sc, .slice p1.ka p1.kn p1.kc, .int .i64 a1.step, .slice p1.ha p1.hn p1.hc, .int .i64 a1.status, .int .i64 a1.out]) (fun w28' q => ?_)
      rw [q.1]; have B_p1 := q.2.1; have s_w28' := q.2.2.1; have u_w28' := q.2.2.2; clear q
      replace B_p0 := (B_p0.below u_w28')
      have U := (u_w28_a0'.trans (u_w28'.mono u_w28_a0'.size))
      have V_w28' := (Below.refl w.heap.size w).trans (U.mono ((Below.refl w.heap.size w)).size)
      have S_w28' : w.heap.size + 2 ≤ w28'.heap.size := Nat.le_of_eq s_w28'.symm
      clear u_w28_a0' u_w28' s_w28_a0' s_w28' U
      refine (szPlayer_o_yes a0 p0 (1048576) _ (z0.below V_w28') (by omega) (by omega)).mono ?_
      rintro e w29' ⟨rfl, u_w29'⟩
      replace B_p0 := B_p0.below u_w29'
      replace B_p1 := B_p1.below u_w29'
      have V_w29' := V_w28'.trans (u_w29'.mono (V_w28').size)
      have S_w29' := u_w29'.size
      clear u_w29' V_w28'
      have e_p1 := B_p1.all11
      go_wp2_with fail
      clear e_p1
      refine (szPlayer_o_no a1 p1 (1048576 - (szP p0 a0.shares a0.keys a0.heard : Int)) _ (z1.below V_w29') (by omega) (by omega) (by omega)).mono ?_
      rintro e w30' ⟨rfl, u_w30'⟩
      replace B_p0 := B_p0.below u_w30'
      replace B_p1 := B_p1.below u_w30'
      have V_w30' := V_w29'.trans (u_w30'.mono (V_w29').size)
      have S_w30' := u_w30'.size
      clear u_w30' V_w29'
      go_wp2
      go_ret
      exact ⟨rfl, V_w30'⟩
  · skip
    go_enter Tryd.func9, Tryd.ntmps9
    go_wp2_with fail
    refine Exists.elim (Blk.new_ w (b := w.heap.size) rfl 26 #[.int .i64 a0.P, .int .i64 a0.party, .int .i64 a0.input, .int .i64 a0.mask, .int .i64 a0.delta, .slice p0.sa p0.sn p0.sc, .slice p0.ka p0.kn p0.kc, .int .i64 a0.step, .slice p0.ha p0.hn p0.hc, .int .i64 a0.status, .int .i64 a0.out]) (fun w31_a0' q => ?_)
    rw [q.1]; have B_p0 := q.2.1; have s_w31_a0' := q.2.2.1; have u_w31_a0' := q.2.2.2; clear q
    refine Exists.elim (Blk.new_ w31_a0' (b := w.heap.size + 1) s_w31_a0' 26 #[.int .i64 a1.P, .int .i64 a1.party, .int .i64 a1.input, .int .i64 a1.mask, .int .i64 a1.delta, .slice p1.sa p1.sn p1.sc, .slice p1.ka p1.kn p1.kc, .int .i64 a1.step, .slice p1.ha p1.hn p1.hc, .int .i64 a1.status, .int .i64 a1.out]) (fun w31' q => ?_)
    rw [q.1]; have B_p1 := q.2.1; have s_w31' := q.2.2.1; have u_w31' := q.2.2.2; clear q
    replace B_p0 := (B_p0.below u_w31')
    have U := (u_w31_a0'.trans (u_w31'.mono u_w31_a0'.size))
    have V_w31' := (Below.refl w.heap.size w).trans (U.mono ((Below.refl w.heap.size w)).size)
    have S_w31' : w.heap.size + 2 ≤ w31'.heap.size := Nat.le_of_eq s_w31'.symm
    clear u_w31_a0' u_w31' s_w31_a0' s_w31' U
    refine (szPlayer_o_no a0 p0 (1048576) _ (z0.below V_w31') (by omega) (by omega) (by omega)).mono ?_
    rintro e w32' ⟨rfl, u_w32'⟩
    replace B_p0 := B_p0.below u_w32'
    replace B_p1 := B_p1.below u_w32'
    have V_w32' := V_w31'.trans (u_w32'.mono (V_w31').size)
    have S_w32' := u_w32'.size
    clear u_w32' V_w31'
    go_wp2
    go_ret
    exact ⟨rfl, V_w32'⟩
end Go.Proofs.YtlmdckcohoddnaaDoor
