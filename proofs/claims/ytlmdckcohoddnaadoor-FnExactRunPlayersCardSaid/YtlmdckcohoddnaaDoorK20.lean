/- Lemmas and walks that the claim's proof rests on, part 20. -/
import Derived.Test.YtlmdckcohoddnaaDoorK19
namespace Go.Proofs.YtlmdckcohoddnaaDoor
open Go.RowKit
structure InvRunPlayersRD where
  l1 : Bool
  l3 : Bool
  l4 : Bool
  l10 : Bool
  l11 : Bool
  v1 : Value
  v3 : Value
  v4 : Value
  v10 : Value
  v11 : Value
  v5 : Value
  v6 : Value
  v7 : Value
  v8 : Value
  v9 : Value
  y0 : PlX
  F_y0 : List Nat
  y1 : PlX
  F_y1 : List Nat
  r0 : PlX
  F_r0 : List Nat
  r1 : PlX
  F_r1 : List Nat
  r2 : Option Addr
  rn2 : Nat
  rc2 : Nat
  F_r2 : List Nat
  bx_r0 : Nat
  bx_r1 : Nat
structure InvRunPlayersRF (W0 : World) (a0 : Pl) (a1 : Pl) (d0_0 : Pl) (d1_0 : Pl) (d2_0 : List MsD) (d3_0 : Bool) (l1 : Bool) (l3 : Bool) (l4 : Bool) (l10 : Bool) (l11 : Bool) (v1 : Value) (v3 : Value) (v4 : Value) (v10 : Value) (v11 : Value) (v5 : Value) (v6 : Value) (v7 : Value) (v8 : Value) (v9 : Value) (y0 : PlX) (F_y0 : List Nat) (y1 : PlX) (F_y1 : List Nat) (r0 : PlX) (F_r0 : List Nat) (r1 : PlX) (F_r1 : List Nat) (r2 : Option Addr) (rn2 : Nat) (rc2 : Nat) (F_r2 : List Nat) (bx_r0 : Nat) (bx_r1 : Nat) (wJ : World) : Prop where
  U : Below W0.heap.size W0 wJ
  k3_1 : l3 = true → l1 = true
  k4_1 : l4 = true → l1 = true
  k4_3 : l4 = true → l3 = true
  vq1 : l1 = true → v1 = .agg #[.int .i64 a0.P, .int .i64 a0.party, .int .i64 a0.input, .int .i64 a0.mask, .int .i64 a0.delta, .slice y0.sa y0.sn y0.sc, .slice y0.ka y0.kn y0.kc, .int .i64 a0.step, .slice y0.ha y0.hn y0.hc, .int .i64 a0.status, .int .i64 a0.out]
  oy0 : l1 = true → PlO wJ W0.heap.size y0 a0.shares a0.keys a0.heard F_y0
  vq3 : l3 = true → v3 = .agg #[.int .i64 a1.P, .int .i64 a1.party, .int .i64 a1.input, .int .i64 a1.mask, .int .i64 a1.delta, .slice y1.sa y1.sn y1.sc, .slice y1.ka y1.kn y1.kc, .int .i64 a1.step, .slice y1.ha y1.hn y1.hc, .int .i64 a1.status, .int .i64 a1.out]
  oy1 : l3 = true → PlO wJ W0.heap.size y1 a1.shares a1.keys a1.heard F_y1
  vq4 : l4 = true → v4 = .tuple #[.agg #[.int .i64 d0_0.P, .int .i64 d0_0.party, .int .i64 d0_0.input, .int .i64 d0_0.mask, .int .i64 d0_0.delta, .slice r0.sa r0.sn r0.sc, .slice r0.ka r0.kn r0.kc, .int .i64 d0_0.step, .slice r0.ha r0.hn r0.hc, .int .i64 d0_0.status, .int .i64 d0_0.out], .agg #[.int .i64 d1_0.P, .int .i64 d1_0.party, .int .i64 d1_0.input, .int .i64 d1_0.mask, .int .i64 d1_0.delta, .slice r1.sa r1.sn r1.sc, .slice r1.ka r1.kn r1.kc, .int .i64 d1_0.step, .slice r1.ha r1.hn r1.hc, .int .i64 d1_0.status, .int .i64 d1_0.out], .slice r2 rn2 rc2, .bool d3_0]
  vq5 : l4 = true → v5 = .tuple #[.agg #[.int .i64 d0_0.P, .int .i64 d0_0.party, .int .i64 d0_0.input, .int .i64 d0_0.mask, .int .i64 d0_0.delta, .slice r0.sa r0.sn r0.sc, .slice r0.ka r0.kn r0.kc, .int .i64 d0_0.step, .slice r0.ha r0.hn r0.hc, .int .i64 d0_0.status, .int .i64 d0_0.out], .agg #[.int .i64 d1_0.P, .int .i64 d1_0.party, .int .i64 d1_0.input, .int .i64 d1_0.mask, .int .i64 d1_0.delta, .slice r1.sa r1.sn r1.sc, .slice r1.ka r1.kn r1.kc, .int .i64 d1_0.step, .slice r1.ha r1.hn r1.hc, .int .i64 d1_0.status, .int .i64 d1_0.out], .slice r2 rn2 rc2, .bool d3_0]
  vq6 : l4 = true → v6 = .agg #[.int .i64 d0_0.P, .int .i64 d0_0.party, .int .i64 d0_0.input, .int .i64 d0_0.mask, .int .i64 d0_0.delta, .slice r0.sa r0.sn r0.sc, .slice r0.ka r0.kn r0.kc, .int .i64 d0_0.step, .slice r0.ha r0.hn r0.hc, .int .i64 d0_0.status, .int .i64 d0_0.out]
  vq7 : l4 = true → v7 = .agg #[.int .i64 d1_0.P, .int .i64 d1_0.party, .int .i64 d1_0.input, .int .i64 d1_0.mask, .int .i64 d1_0.delta, .slice r1.sa r1.sn r1.sc, .slice r1.ka r1.kn r1.kc, .int .i64 d1_0.step, .slice r1.ha r1.hn r1.hc, .int .i64 d1_0.status, .int .i64 d1_0.out]
  vq8 : l4 = true → v8 = .slice r2 rn2 rc2
  vq9 : l4 = true → v9 = .bool d3_0
  or0 : l4 = true → PlO wJ W0.heap.size r0 d0_0.shares d0_0.keys d0_0.heard F_r0
  or1 : l4 = true → PlO wJ W0.heap.size r1 d1_0.shares d1_0.keys d1_0.heard F_r1
  or2 : l4 = true → MsO wJ W0.heap.size r2 rn2 rc2 d2_0 F_r2
  dj_r0_r1 : l4 = true → Disj (F_r0) (F_r1)
  dj_r0_r2 : l4 = true → Disj (F_r0) (F_r2)
  dj_r1_r2 : l4 = true → Disj (F_r1) (F_r2)
  vq10 : l10 = true → v10 = .pointer (some ⟨bx_r0, 0, none⟩)
  Bx_r0 : l10 = true → Blk wJ bx_r0 31 #[.int .i64 0, .int .i64 0, .int .i64 0, .int .i64 0, .int .i64 0, .slice none 0 0, .slice none 0 0, .int .i64 0, .slice none 0 0, .int .i64 0, .int .i64 0]
  hb_r0 : l10 = true → (W0.heap.size ≤ bx_r0 ∧ bx_r0 < wJ.heap.size)
  N_r0_0 : l4 = true → l10 = true → (∀ k ∈ F_r0, k ≠ bx_r0)
  N_r1_0 : l4 = true → l10 = true → (∀ k ∈ F_r1, k ≠ bx_r0)
  N_r2_0 : l4 = true → l10 = true → (∀ k ∈ F_r2, k ≠ bx_r0)
  vq11 : l11 = true → v11 = .pointer (some ⟨bx_r1, 0, none⟩)
  Bx_r1 : l11 = true → Blk wJ bx_r1 31 #[.int .i64 0, .int .i64 0, .int .i64 0, .int .i64 0, .int .i64 0, .slice none 0 0, .slice none 0 0, .int .i64 0, .slice none 0 0, .int .i64 0, .int .i64 0]
  hb_r1 : l11 = true → (W0.heap.size ≤ bx_r1 ∧ bx_r1 < wJ.heap.size)
  N_r0_1 : l4 = true → l11 = true → (∀ k ∈ F_r0, k ≠ bx_r1)
  N_r1_1 : l4 = true → l11 = true → (∀ k ∈ F_r1, k ≠ bx_r1)
  N_r2_1 : l4 = true → l11 = true → (∀ k ∈ F_r2, k ≠ bx_r1)
  hne_r0_1 : l10 = true → l11 = true → bx_r0 ≠ bx_r1
structure InvRunPlayersHD where
  l1 : Bool
  l3 : Bool
  l4 : Bool
  l10 : Bool
  l11 : Bool
  v1 : Value
  v3 : Value
  v4 : Value
  v10 : Value
  v11 : Value
  v5 : Value
  v6 : Value
  v7 : Value
  v8 : Value
  v9 : Value
  x0 : PlX
  F_x0 : List Nat
  x1 : PlX
  F_x1 : List Nat
  h0 : PlX
  F_h0 : List Nat
  h1 : PlX
  F_h1 : List Nat
  h2 : Option Addr
  hn2 : Nat
  hc2 : Nat
  F_h2 : List Nat
  bx_h0 : Nat
  bx_h1 : Nat
structure InvRunPlayersHF (W0 : World) (a0 : Pl) (a1 : Pl) (d0_0 : Pl) (d1_0 : Pl) (d2_0 : List MsD) (d3_0 : Bool) (l1 : Bool) (l3 : Bool) (l4 : Bool) (l10 : Bool) (l11 : Bool) (v1 : Value) (v3 : Value) (v4 : Value) (v10 : Value) (v11 : Value) (v5 : Value) (v6 : Value) (v7 : Value) (v8 : Value) (v9 : Value) (x0 : PlX) (F_x0 : List Nat) (x1 : PlX) (F_x1 : List Nat) (h0 : PlX) (F_h0 : List Nat) (h1 : PlX) (F_h1 : List Nat) (h2 : Option Addr) (hn2 : Nat) (hc2 : Nat) (F_h2 : List Nat) (bx_h0 : Nat) (bx_h1 : Nat) (wJ : World) : Prop where
  U : Below W0.heap.size W0 wJ
  k3_1 : l3 = true → l1 = true
  k4_1 : l4 = true → l1 = true
  k4_3 : l4 = true → l3 = true
  vq1 : l1 = true → v1 = .agg #[.int .i64 a0.P, .int .i64 a0.party, .int .i64 a0.input, .int .i64 a0.mask, .int .i64 a0.delta, .slice x0.sa x0.sn x0.sc, .slice x0.ka x0.kn x0.kc, .int .i64 a0.step, .slice x0.ha x0.hn x0.hc, .int .i64 a0.status, .int .i64 a0.out]
  ox0 : l1 = true → PlO wJ W0.heap.size x0 a0.shares a0.keys a0.heard F_x0
  vq3 : l3 = true → v3 = .agg #[.int .i64 a1.P, .int .i64 a1.party, .int .i64 a1.input, .int .i64 a1.mask, .int .i64 a1.delta, .slice x1.sa x1.sn x1.sc, .slice x1.ka x1.kn x1.kc, .int .i64 a1.step, .slice x1.ha x1.hn x1.hc, .int .i64 a1.status, .int .i64 a1.out]
  ox1 : l3 = true → PlO wJ W0.heap.size x1 a1.shares a1.keys a1.heard F_x1
  vq4 : l4 = true → v4 = .tuple #[.agg #[.int .i64 d0_0.P, .int .i64 d0_0.party, .int .i64 d0_0.input, .int .i64 d0_0.mask, .int .i64 d0_0.delta, .slice h0.sa h0.sn h0.sc, .slice h0.ka h0.kn h0.kc, .int .i64 d0_0.step, .slice h0.ha h0.hn h0.hc, .int .i64 d0_0.status, .int .i64 d0_0.out], .agg #[.int .i64 d1_0.P, .int .i64 d1_0.party, .int .i64 d1_0.input, .int .i64 d1_0.mask, .int .i64 d1_0.delta, .slice h1.sa h1.sn h1.sc, .slice h1.ka h1.kn h1.kc, .int .i64 d1_0.step, .slice h1.ha h1.hn h1.hc, .int .i64 d1_0.status, .int .i64 d1_0.out], .slice h2 hn2 hc2, .bool d3_0]
  vq5 : l4 = true → v5 = .tuple #[.agg #[.int .i64 d0_0.P, .int .i64 d0_0.party, .int .i64 d0_0.input, .int .i64 d0_0.mask, .int .i64 d0_0.delta, .slice h0.sa h0.sn h0.sc, .slice h0.ka h0.kn h0.kc, .int .i64 d0_0.step, .slice h0.ha h0.hn h0.hc, .int .i64 d0_0.status, .int .i64 d0_0.out], .agg #[.int .i64 d1_0.P, .int .i64 d1_0.party, .int .i64 d1_0.input, .int .i64 d1_0.mask, .int .i64 d1_0.delta, .slice h1.sa h1.sn h1.sc, .slice h1.ka h1.kn h1.kc, .int .i64 d1_0.step, .slice h1.ha h1.hn h1.hc, .int .i64 d1_0.status, .int .i64 d1_0.out], .slice h2 hn2 hc2, .bool d3_0]
  vq6 : l4 = true → v6 = .agg #[.int .i64 d0_0.P, .int .i64 d0_0.party, .int .i64 d0_0.input, .int .i64 d0_0.mask, .int .i64 d0_0.delta, .slice h0.sa h0.sn h0.sc, .slice h0.ka h0.kn h0.kc, .int .i64 d0_0.step, .slice h0.ha h0.hn h0.hc, .int .i64 d0_0.status, .int .i64 d0_0.out]
  vq7 : l4 = true → v7 = .agg #[.int .i64 d1_0.P, .int .i64 d1_0.party, .int .i64 d1_0.input, .int .i64 d1_0.mask, .int .i64 d1_0.delta, .slice h1.sa h1.sn h1.sc, .slice h1.ka h1.kn h1.kc, .int .i64 d1_0.step, .slice h1.ha h1.hn h1.hc, .int .i64 d1_0.status, .int .i64 d1_0.out]
  vq8 : l4 = true → v8 = .slice h2 hn2 hc2
  vq9 : l4 = true → v9 = .bool d3_0
  oh0 : l4 = true → PlO wJ W0.heap.size h0 d0_0.shares d0_0.keys d0_0.heard F_h0
  oh1 : l4 = true → PlO wJ W0.heap.size h1 d1_0.shares d1_0.keys d1_0.heard F_h1
  oh2 : l4 = true → MsO wJ W0.heap.size h2 hn2 hc2 d2_0 F_h2
  dj_h0_h1 : l4 = true → Disj (F_h0) (F_h1)
  dj_h0_h2 : l4 = true → Disj (F_h0) (F_h2)
  dj_h1_h2 : l4 = true → Disj (F_h1) (F_h2)
  vq10 : l10 = true → v10 = .pointer (some ⟨bx_h0, 0, none⟩)
  Bx_h0 : l10 = true → Blk wJ bx_h0 31 #[.int .i64 0, .int .i64 0, .int .i64 0, .int .i64 0, .int .i64 0, .slice none 0 0, .slice none 0 0, .int .i64 0, .slice none 0 0, .int .i64 0, .int .i64 0]
  hb_h0 : l10 = true → (W0.heap.size ≤ bx_h0 ∧ bx_h0 < wJ.heap.size)
  N_h0_0 : l4 = true → l10 = true → (∀ k ∈ F_h0, k ≠ bx_h0)
  N_h1_0 : l4 = true → l10 = true → (∀ k ∈ F_h1, k ≠ bx_h0)
  N_h2_0 : l4 = true → l10 = true → (∀ k ∈ F_h2, k ≠ bx_h0)
  vq11 : l11 = true → v11 = .pointer (some ⟨bx_h1, 0, none⟩)
  Bx_h1 : l11 = true → Blk wJ bx_h1 31 #[.int .i64 0, .int .i64 0, .int .i64 0, .int .i64 0, .int .i64 0, .slice none 0 0, .slice none 0 0, .int .i64 0, .slice none 0 0, .int .i64 0, .int .i64 0]
  hb_h1 : l11 = true → (W0.heap.size ≤ bx_h1 ∧ bx_h1 < wJ.heap.size)
  N_h0_1 : l4 = true → l11 = true → (∀ k ∈ F_h0, k ≠ bx_h1)
  N_h1_1 : l4 = true → l11 = true → (∀ k ∈ F_h1, k ≠ bx_h1)
  N_h2_1 : l4 = true → l11 = true → (∀ k ∈ F_h2, k ≠ bx_h1)
  hne_h0_1 : l10 = true → l11 = true → bx_h0 ≠ bx_h1
set_option maxHeartbeats 16000000 in
set_option maxRecDepth 100000 in
theorem FnExactRunPlayers_walk (a0 : Pl) (p0 : PlX) (a1 : Pl) (p1 : PlX) (w : World) (z0 : PlR w p0 a0.shares a0.keys a0.heard) (z1 : PlR w p1 a1.shares a1.keys a1.heard) (hT : Tbl w) :
    Calls Tryd.prog 12 #[.agg #[.int .i64 a0.P, .int .i64 a0.party, .int .i64 a0.input, .int .i64 a0.mask, .int .i64 a0.delta, .slice p0.sa p0.sn p0.sc, .slice p0.ka p0.kn p0.kc, .int .i64 a0.step, .slice p0.ha p0.hn p0.hc, .int .i64 a0.status, .int .i64 a0.out], .agg #[.int .i64 a1.P, .int .i64 a1.party, .int .i64 a1.input, .int .i64 a1.mask, .int .i64 a1.delta, .slice p1.sa p1.sn p1.sc, .slice p1.ka p1.kn p1.kc, .int .i64 a1.step, .slice p1.ha p1.hn p1.hc, .int .i64 a1.status, .int .i64 a1.out]] w fun e w' => e = .returned (.bool true) ∧ Below w.heap.size w w' := by
  have LX := Lib.hid hT
  clear hT
  have CS := fun (W : World) (x0 : PlX) (x1 : PlX) => spec_RunPlayers_any a0 x0 a1 x1 W
  have CI := fun (W : World) (x0 : PlX) (x1 : PlX) => RunPlayers_any a0 x0 a1 x1 W
  have hl0 := rnR_1 a0 a1
  have hl1 := rnR_2 a0 a1
  have hl2 := rnR_3 a0 a1
  generalize (rnR a0 a1).1 = d0_0 at CS CI hl0 hl1 hl2
  generalize (rnR a0 a1).2.1 = d1_0 at CS CI hl0 hl1 hl2
  generalize (rnR a0 a1).2.2 = d2_0 at CS CI hl0 hl1 hl2
  generalize twoB a0 a1 = d3_0 at CS CI hl0 hl1 hl2
  replace CS := Lib.hid CS
  replace CI := Lib.hid CI
  by_cases ht0 : (szP p0 a0.shares a0.keys a0.heard : Int) ≤ 1048576
  · skip
    by_cases ht1 : (szP p1 a1.shares a1.keys a1.heard : Int) ≤ 1048576 - (szP p0 a0.shares a0.keys a0.heard : Int)
    · skip
      go_enter Tryd.func12, Tryd.ntmps12
      go_wp2_with fail
      refine Exists.elim (Blk.new_ w (b := w.heap.size) rfl 26 #[.int .i64 a0.P, .int .i64 a0.party, .int .i64 a0.input, .int .i64 a0.mask, .int .i64 a0.delta, .slice p0.sa p0.sn p0.sc, .slice p0.ka p0.kn p0.kc, .int .i64 a0.step, .slice p0.ha p0.hn p0.hc, .int .i64 a0.status, .int .i64 a0.out]) (fun w1_a0' q => ?_)
      rw [q.1]; have B_p0 := q.2.1; have s_w1_a0' := q.2.2.1; have u_w1_a0' := q.2.2.2; clear q
      refine Exists.elim (Blk.new_ w1_a0' (b := w.heap.size + 1) s_w1_a0' 26 #[.int .i64 a1.P, .int .i64 a1.party, .int .i64 a1.input, .int .i64 a1.mask, .int .i64 a1.delta, .slice p1.sa p1.sn p1.sc, .slice p1.ka p1.kn p1.kc, .int .i64 a1.step, .slice p1.ha p1.hn p1.hc, .int .i64 a1.status, .int .i64 a1.out]) (fun w1' q => ?_)
      rw [q.1]; have B_p1 := q.2.1; have s_w1' := q.2.2.1; have u_w1' := q.2.2.2; clear q
      replace B_p0 := (B_p0.below u_w1')
      have U := (u_w1_a0'.trans (u_w1'.mono u_w1_a0'.size))
      have V_w1' := (Below.refl w.heap.size w).trans (U.mono ((Below.refl w.heap.size w)).size)
      have S_w1' : w.heap.size + 2 ≤ w1'.heap.size := Nat.le_of_eq s_w1'.symm
      clear u_w1_a0' u_w1' s_w1_a0' s_w1' U
      refine (szPlayer_o_yes a0 p0 (1048576) _ (z0.below V_w1') (by omega) (by omega)).mono ?_
      rintro e w2' ⟨rfl, u_w2'⟩
      replace B_p0 := B_p0.below u_w2'
      replace B_p1 := B_p1.below u_w2'
      have V_w2' := V_w1'.trans (u_w2'.mono (V_w1').size)
      have S_w2' := u_w2'.size
      clear u_w2' V_w1'
      have e_p1_0 := B_p1.a11_0
      have e_p1_1 := B_p1.a11_1
      have e_p1_2 := B_p1.a11_2
      have e_p1_3 := B_p1.a11_3
      have e_p1_4 := B_p1.a11_4
      have e_p1_5 := B_p1.a11_5
      have e_p1_6 := B_p1.a11_6
      have e_p1_7 := B_p1.a11_7
      have e_p1_8 := B_p1.a11_8
      have e_p1_9 := B_p1.a11_9
      have e_p1_10 := B_p1.a11_10
      go_wp2_with fail
      clear e_p1_0 e_p1_1 e_p1_2 e_p1_3 e_p1_4 e_p1_5 e_p1_6 e_p1_7 e_p1_8 e_p1_9 e_p1_10
      refine (szPlayer_o_yes a1 p1 (1048576 - (szP p0 a0.shares a0.keys a0.heard : Int)) _ (z1.below V_w2') (by omega) (by omega)).mono ?_
      rintro e w3' ⟨rfl, u_w3'⟩
      replace B_p0 := B_p0.below u_w3'
      replace B_p1 := B_p1.below u_w3'
      have V_w3' := V_w2'.trans (u_w3'.mono (V_w2').size)
      have S_w3' := u_w3'.size
      clear u_w3' V_w2'
      have hlf : (0 : Int) ≤ 1048576 - (szP p0 a0.shares a0.keys a0.heard : Int) - (szP p1 a1.shares a1.keys a1.heard : Int) := by omega
      have hcn0 := z0.cnt (by omega)
      replace ht0 : (szP p0 a0.shares a0.keys a0.heard : Int) ≤ 1048576 := by omega
      have hcn1 := z1.cnt (by omega)
      replace ht1 : (szP p1 a1.shares a1.keys a1.heard : Int) ≤ 1048576 := by omega
      go_upto_region 8 with fail
      go_cut [6, 7, 8, 9] (fun s6 s7 s8 s9 wx => ∃ (r0 : PlX) (F_r0 : List Nat) (r1 : PlX) (F_r1 : List Nat) (r2 : Option Addr) (rn2 rc2 : Nat) (F_r2 : List Nat) (bx_r0 : Nat) (bx_r1 : Nat), s6 = .pointer (some ⟨bx_r0, 0, none⟩) ∧ s7 = .pointer (some ⟨bx_r1, 0, none⟩) ∧ s8 = .slice r2 rn2 rc2 ∧ s9 = .bool d3_0 ∧ PlO wx w3'.heap.size r0 d0_0.shares d0_0.keys d0_0.heard F_r0 ∧ PlO wx w3'.heap.size r1 d1_0.shares d1_0.keys d1_0.heard F_r1 ∧ MsO wx w3'.heap.size r2 rn2 rc2 d2_0 F_r2 ∧ (∀ k ∈ F_r0, (w3'.heap.size ≤ k ∧ k < wx.heap.size) ∧ k ≠ bx_r0 ∧ k ≠ bx_r1) ∧ (∀ k ∈ F_r1, (w3'.heap.size ≤ k ∧ k < wx.heap.size) ∧ k ≠ bx_r0 ∧ k ≠ bx_r1) ∧ (∀ k ∈ F_r2, (w3'.heap.size ≤ k ∧ k < wx.heap.size) ∧ k ≠ bx_r0 ∧ k ≠ bx_r1) ∧ Disj (F_r0) (F_r1) ∧ Disj (F_r0) (F_r2) ∧ Disj (F_r1) (F_r2) ∧ Blk wx bx_r0 31 #[.int .i64 d0_0.P, .int .i64 d0_0.party, .int .i64 d0_0.input, .int .i64 d0_0.mask, .int .i64 d0_0.delta, .slice r0.sa r0.sn r0.sc, .slice r0.ka r0.kn r0.kc, .int .i64 d0_0.step, .slice r0.ha r0.hn r0.hc, .int .i64 d0_0.status, .int .i64 d0_0.out] ∧ Blk wx bx_r1 31 #[.int .i64 d1_0.P, .int .i64 d1_0.party, .int .i64 d1_0.input, .int .i64 d1_0.mask, .int .i64 d1_0.delta, .slice r1.sa r1.sn r1.sc, .slice r1.ka r1.kn r1.kc, .int .i64 d1_0.step, .slice r1.ha r1.hn r1.hc, .int .i64 d1_0.status, .int .i64 d1_0.out] ∧ (w3'.heap.size ≤ bx_r0 ∧ bx_r0 < wx.heap.size) ∧ (w3'.heap.size ≤ bx_r1 ∧ bx_r1 < wx.heap.size) ∧ bx_r0 ≠ bx_r1 ∧ Below w3'.heap.size w3' wx)
      case first =>
        replace B_p0 := Blk.drew B_p0
        replace B_p1 := Blk.drew B_p1
        replace B_p0 := Blk.drew B_p0
        replace B_p1 := Blk.drew B_p1
        refine wp_region_noPanic ?_
        refine wp_region_held_drew (S := (fun W => Blk W (w.heap.size) 26 #[.int .i64 a0.P, .int .i64 a0.party, .int .i64 a0.input, .int .i64 a0.mask, .int .i64 a0.delta, .slice p0.sa p0.sn p0.sc, .slice p0.ka p0.kn p0.kc, .int .i64 a0.step, .slice p0.ha p0.hn p0.hc, .int .i64 a0.status, .int .i64 a0.out] ∧ Blk W (w.heap.size + 1) 26 #[.int .i64 a1.P, .int .i64 a1.party, .int .i64 a1.input, .int .i64 a1.mask, .int .i64 a1.delta, .slice p1.sa p1.sn p1.sc, .slice p1.ka p1.kn p1.kc, .int .i64 a1.step, .slice p1.ha p1.hn p1.hc, .int .i64 a1.status, .int .i64 a1.out])) (by kernel_rfl) ?hS1 (fun hHeld => ?go1)
        case hS1 => exact ⟨B_p0, B_p1⟩
        refine wpAnyH_take (i := 0) (oi := { dst := some 34, op := _, type := _, pos := _, after := _, guard := _ }) (v := ?v0_2) rfl (by kernel_rfl) (by kernel_rfl) (by kernel_rfl) (fun _ _ _ h => h) (Or.inl ⟨by rfl, ?hy0_2⟩) hHeld ?rest0_2
        case hy0_2 => (intro w hSw; obtain ⟨qS0, qS1⟩ := hSw; have cS0_0 := qS0.cell 0; have cS0_1 := qS0.cell 1; have cS0_2 := qS0.cell 2; have cS0_3 := qS0.cell 3; have cS0_4 := qS0.cell 4; have cS0_5 := qS0.cell 5; have cS0_6 := qS0.cell 6; have cS0_7 := qS0.cell 7; have cS0_8 := qS0.cell 8; have cS0_9 := qS0.cell 9; have cS0_10 := qS0.cell 10; have cS1_0 := qS1.cell 0; have cS1_1 := qS1.cell 1; have cS1_2 := qS1.cell 2; have cS1_3 := qS1.cell 3; have cS1_4 := qS1.cell 4; have cS1_5 := qS1.cell 5; have cS1_6 := qS1.cell 6; have cS1_7 := qS1.cell 7; have cS1_8 := qS1.cell 8; have cS1_9 := qS1.cell 9; have cS1_10 := qS1.cell 10; first | (go_simp; done) | (go_simp; with_reducible rfl) | (with_reducible rfl))
        (try simp only [Act.put, List.setIfInBounds_toArray, List.set_cons_zero, List.set_cons_succ])
        refine wpAnyH_take (i := 2) (oi := { dst := some 36, op := _, type := _, pos := _, after := _, guard := _ }) (v := ?v2_3) rfl (by kernel_rfl) (by kernel_rfl) (by kernel_rfl) (fun _ _ _ h => h) (Or.inl ⟨by rfl, ?hy2_3⟩) hHeld ?rest2_3
        case hy2_3 => (intro w hSw; obtain ⟨qS0, qS1⟩ := hSw; have cS0_0 := qS0.cell 0; have cS0_1 := qS0.cell 1; have cS0_2 := qS0.cell 2; have cS0_3 := qS0.cell 3; have cS0_4 := qS0.cell 4; have cS0_5 := qS0.cell 5; have cS0_6 := qS0.cell 6; have cS0_7 := qS0.cell 7; have cS0_8 := qS0.cell 8; have cS0_9 := qS0.cell 9; have cS0_10 := qS0.cell 10; have cS1_0 := qS1.cell 0; have cS1_1 := qS1.cell 1; have cS1_2 := qS1.cell 2; have cS1_3 := qS1.cell 3; have cS1_4 := qS1.cell 4; have cS1_5 := qS1.cell 5; have cS1_6 := qS1.cell 6; have cS1_7 := qS1.cell 7; have cS1_8 := qS1.cell 8; have cS1_9 := qS1.cell 9; have cS1_10 := qS1.cell 10; first | (go_simp; done) | (go_simp; with_reducible rfl) | (with_reducible rfl))
        (try simp only [Act.put, List.setIfInBounds_toArray, List.set_cons_zero, List.set_cons_succ])
        rotate_left 1
        refine wpAnyH_invG [1, 3, 4, 10, 11] #[true, false, true, false, false, false, false, false, false, false, false, false, false, false, false, false] #[true, true, true, true, true, true, true, true, true, true, true, true, false, false, false, false] 14 4 (fun (a0J : Act) (lJ : Array Bool) (aJ : Act) (wJ : World) => ∃ dJ : InvRunPlayersRD, lJ = #[true, dJ.l1, true, dJ.l3, dJ.l4, dJ.l4, dJ.l4, dJ.l4, dJ.l4, dJ.l4, dJ.l10, dJ.l11, false, false, false, false] ∧ aJ = ((((((((((a0J.put (some 35) dJ.v1).put (some 37) dJ.v3).put (some 38) dJ.v4).put (some 6) dJ.v10).put (some 7) dJ.v11).put (some 33) dJ.v5).put (some 39) dJ.v6).put (some 40) dJ.v7).put (some 41) dJ.v8).put (some 42) dJ.v9) ∧ InvRunPlayersRF w3' a0 a1 d0_0 d1_0 d2_0 d3_0 dJ.l1 dJ.l3 dJ.l4 dJ.l10 dJ.l11 dJ.v1 dJ.v3 dJ.v4 dJ.v10 dJ.v11 dJ.v5 dJ.v6 dJ.v7 dJ.v8 dJ.v9 dJ.y0 dJ.F_y0 dJ.y1 dJ.F_y1 dJ.r0 dJ.F_r0 dJ.r1 dJ.F_r1 dJ.r2 dJ.rn2 dJ.rc2 dJ.F_r2 dJ.bx_r0 dJ.bx_r1 wJ) (fun T => #[true, T.getD 0 true, true, T.getD 1 true, T.getD 2 true, T.getD 2 true, T.getD 2 true, T.getD 2 true, T.getD 2 true, T.getD 2 true, T.getD 3 true, T.getD 4 true, false, false, false, false]) (by kernel_rfl) (by kernel_rfl) (by kernel_rfl) (by kernel_rfl) (by kernel_rfl) ?hJ hHeld ?hi ?hs ?he
        case hJ => rintro lJ aJ wJ ⟨dJ, rfl, _⟩; exact ⟨[dJ.l1, dJ.l3, dJ.l4, dJ.l10, dJ.l11], rfl, rfl⟩
        case hi => exact ⟨⟨false, false, false, false, false, _, _, _, _, _, _, _, _, _, _, zeroX, [], zeroX, [], zeroX, [], zeroX, [], none, 0, 0, [], 0, 0⟩, rfl, (Act.selfs (Act.selfs (Act.selfs (Act.selfs (Act.selfs (Act.selfs (Act.selfs (Act.selfs (Act.selfs (Act.selfs rfl 35) 37) 38) 6) 7) 33) 39) 40) 41) 42), ⟨(Below.refl _ _).drew, fun q0 => (by cases q0), fun q0 => (by cases q0), fun q0 => (by cases q0), fun q0 => (by cases q0), fun q0 => (by cases q0), fun q0 => (by cases q0), fun q0 => (by cases q0), fun q0 => (by cases q0), fun q0 => (by cases q0), fun q0 => (by cases q0), fun q0 => (by cases q0), fun q0 => (by cases q0), fun q0 => (by cases q0), fun q0 => (by cases q0), fun q0 => (by cases q0), fun q0 => (by cases q0), fun q0 => (by cases q0), fun q0 => (by cases q0), fun q0 => (by cases q0), fun q0 => (by cases q0), fun q0 => (by cases q0), fun q0 => (by cases q0), fun q0 q1 => (by cases q0), fun q0 q1 => (by cases q0), fun q0 q1 => (by cases q0), fun q0 => (by cases q0), fun q0 => (by cases q0), fun q0 => (by cases q0), fun q0 q1 => (by cases q0), fun q0 q1 => (by cases q0), fun q0 q1 => (by cases q0), fun q0 q1 => (by cases q0)⟩⟩
        case hs =>
          refine StepsG.cons (o := { dst := some 35, op := _, type := _, pos := _, after := _, guard := _ }) rfl ?_ ?_
          · intro nG lJ aJ wi K IH hS hJ hz0 hd hK
            obtain ⟨dJ, hJ⟩ := hJ
            obtain ⟨e1, hJ⟩ := hJ
            obtain ⟨e2, hF⟩ := hJ
            subst e1
            subst e2
            cases dJ with | mk l1 l3 l4 l10 l11 v1 v3 v4 v10 v11 v5 v6 v7 v8 v9 y0 F_y0 y1 F_y1 r0 F_r0 r1 F_r1 r2 rn2 rc2 F_r2 bx_r0 bx_r1 =>
            replace hF : InvRunPlayersRF w3' a0 a1 d0_0 d1_0 d2_0 d3_0 l1 l3 l4 l10 l11 v1 v3 v4 v10 v11 v5 v6 v7 v8 v9 y0 F_y0 y1 F_y1 r0 F_r0 r1 F_r1 r2 rn2 rc2 F_r2 bx_r0 bx_r1 wi := hF
            have U := hF.U
            have k3_1 := hF.k3_1
            have k4_1 := hF.k4_1
            have k4_3 := hF.k4_3
            have vq1 := hF.vq1
            have oy0 := hF.oy0
            have vq3 := hF.vq3
            have oy1 := hF.oy1
            have vq4 := hF.vq4
            have vq5 := hF.vq5
            have vq6 := hF.vq6
            have vq7 := hF.vq7
            have vq8 := hF.vq8
            have vq9 := hF.vq9
            have or0 := hF.or0
            have or1 := hF.or1
            have or2 := hF.or2
            have dj_r0_r1 := hF.dj_r0_r1
            have dj_r0_r2 := hF.dj_r0_r2
            have dj_r1_r2 := hF.dj_r1_r2
            have vq10 := hF.vq10
            have Bx_r0 := hF.Bx_r0
            have hb_r0 := hF.hb_r0
            have N_r0_0 := hF.N_r0_0
            have N_r1_0 := hF.N_r1_0
            have N_r2_0 := hF.N_r2_0
            have vq11 := hF.vq11
            have Bx_r1 := hF.Bx_r1
            have hb_r1 := hF.hb_r1
            have N_r0_1 := hF.N_r0_1
            have N_r1_1 := hF.N_r1_1
            have N_r2_1 := hF.N_r2_1
            have hne_r0_1 := hF.hne_r0_1
            clear hF
            have e0 : l1 = false := hz0; subst e0
            clear hz0 hd
            have B_p0 := hS.1
            have B_p1 := hS.2
            clear hS
            (try simp only [Act.put, List.setIfInBounds_toArray, List.set_cons_zero, List.set_cons_succ])
            replace k3_1 := Lib.hid k3_1
            replace k4_1 := Lib.hid k4_1
            replace k4_3 := Lib.hid k4_3
            replace vq1 := Lib.hid vq1
            replace vq10 := Lib.hid vq10
            replace vq11 := Lib.hid vq11
            replace vq3 := Lib.hid vq3
            replace vq4 := Lib.hid vq4
            replace vq5 := Lib.hid vq5
            replace vq6 := Lib.hid vq6
            replace vq7 := Lib.hid vq7
            replace vq8 := Lib.hid vq8
            replace vq9 := Lib.hid vq9
            go_simp
            refine (toPlayer_o a0 p0 _ (z0.below (V_w3'.trans (U.mono V_w3'.size))) ht0).mono ?_
            rintro e wo ⟨z', F', rfl, n1, u⟩
            replace B_p0 := (B_p0).below u
            replace B_p1 := (B_p1).below u
            refine hK.out _ _ ⟨B_p0, B_p1⟩ ?_
            have hS2 := (⟨B_p0, B_p1⟩ : (fun W => Blk W (w.heap.size) 26 #[.int .i64 a0.P, .int .i64 a0.party, .int .i64 a0.input, .int .i64 a0.mask, .int .i64 a0.delta, .slice p0.sa p0.sn p0.sc, .slice p0.ka p0.kn p0.kc, .int .i64 a0.step, .slice p0.ha p0.hn p0.hc, .int .i64 a0.status, .int .i64 a0.out] ∧ Blk W (w.heap.size + 1) 26 #[.int .i64 a1.P, .int .i64 a1.party, .int .i64 a1.input, .int .i64 a1.mask, .int .i64 a1.delta, .slice p1.sa p1.sn p1.sc, .slice p1.ka p1.kn p1.kc, .int .i64 a1.step, .slice p1.ha p1.hn p1.hc, .int .i64 a1.status, .int .i64 a1.out]) wo)
            clear hK
            try simp only [List.setIfInBounds_toArray, List.set_cons_zero, List.set_cons_succ]
            exact IH.out _ _ _ hS2 ⟨⟨true, l3, l4, l10, l11, .agg #[.int .i64 a0.P, .int .i64 a0.party, .int .i64 a0.input, .int .i64 a0.mask, .int .i64 a0.delta, .slice z'.sa z'.sn z'.sc, .slice z'.ka z'.kn z'.kc, .int .i64 a0.step, .slice z'.ha z'.hn z'.hc, .int .i64 a0.status, .int .i64 a0.out], v3, v4, v10, v11, v5, v6, v7, v8, v9, z', F', y1, F_y1, r0, F_r0, r1, F_r1, r2, rn2, rc2, F_r2, bx_r0, bx_r1⟩, rfl, by kernel_rfl, (show InvRunPlayersRF w3' a0 a1 d0_0 d1_0 d2_0 d3_0 true l3 l4 l10 l11 (.agg #[.int .i64 a0.P, .int .i64 a0.party, .int .i64 a0.input, .int .i64 a0.mask, .int .i64 a0.delta, .slice z'.sa z'.sn z'.sc, .slice z'.ka z'.kn z'.kc, .int .i64 a0.step, .slice z'.ha z'.hn z'.hc, .int .i64 a0.status, .int .i64 a0.out]) v3 v4 v10 v11 v5 v6 v7 v8 v9 z' F' y1 F_y1 r0 F_r0 r1 F_r1 r2 rn2 rc2 F_r2 bx_r0 bx_r1 wo from ⟨((U).trans (u.mono (U).size)), (fun nd3 => (by cases k3_1.out nd3)), (fun nd4 => (by cases k4_1.out nd4)), (fun nd4 => (by cases k4_1.out nd4)), (fun nd1 => rfl), (fun nd1 => n1.lower U.size), (fun nd3 => (by cases k3_1.out nd3)), (fun nd3 => (by cases k3_1.out nd3)), (fun nd4 => (by cases k4_1.out nd4)), (fun nd4 => (by cases k4_1.out nd4)), (fun nd4 => (by cases k4_1.out nd4)), (fun nd4 => (by cases k4_1.out nd4)), (fun nd4 => (by cases k4_1.out nd4)), (fun nd4 => (by cases k4_1.out nd4)), (fun nd4 => (by cases k4_1.out nd4)), (fun nd4 => (by cases k4_1.out nd4)), (fun nd4 => (by cases k4_1.out nd4)), (fun nd4 => (by cases k4_1.out nd4)), (fun nd4 => (by cases k4_1.out nd4)), (fun nd4 => (by cases k4_1.out nd4)), (fun nd10 => (vq10.out nd10)), (fun nd10 => ((Bx_r0 nd10)).below u), (fun nd10 => ⟨((hb_r0 nd10)).1, Nat.lt_of_lt_of_le ((hb_r0 nd10)).2 u.size⟩), (fun nd4 nd10 => (by cases k4_1.out nd4)), (fun nd4 nd10 => (by cases k4_1.out nd4)), (fun nd4 nd10 => (by cases k4_1.out nd4)), (fun nd11 => (vq11.out nd11)), (fun nd11 => ((Bx_r1 nd11)).below u), (fun nd11 => ⟨((hb_r1 nd11)).1, Nat.lt_of_lt_of_le ((hb_r1 nd11)).2 u.size⟩), (fun nd4 nd11 => (by cases k4_1.out nd4)), (fun nd4 nd11 => (by cases k4_1.out nd4)), (fun nd4 nd11 => (by cases k4_1.out nd4)), (fun nd10 nd11 => (hne_r0_1 nd10 nd11))⟩)⟩
          refine StepsG.cons (o := { dst := some 37, op := _, type := _, pos := _, after := _, guard := _ }) rfl ?_ ?_
          · intro nG lJ aJ wi K IH hS hJ hz0 hd hK
            obtain ⟨dJ, hJ⟩ := hJ
            obtain ⟨e1, hJ⟩ := hJ
            obtain ⟨e2, hF⟩ := hJ
            subst e1
            subst e2
            cases dJ with | mk l1 l3 l4 l10 l11 v1 v3 v4 v10 v11 v5 v6 v7 v8 v9 y0 F_y0 y1 F_y1 r0 F_r0 r1 F_r1 r2 rn2 rc2 F_r2 bx_r0 bx_r1 =>
            replace hF : InvRunPlayersRF w3' a0 a1 d0_0 d1_0 d2_0 d3_0 l1 l3 l4 l10 l11 v1 v3 v4 v10 v11 v5 v6 v7 v8 v9 y0 F_y0 y1 F_y1 r0 F_r0 r1 F_r1 r2 rn2 rc2 F_r2 bx_r0 bx_r1 wi := hF
            have U := hF.U
            have k3_1 := hF.k3_1
            have k4_1 := hF.k4_1
            have k4_3 := hF.k4_3
            have vq1 := hF.vq1
            have oy0 := hF.oy0
            have vq3 := hF.vq3
            have oy1 := hF.oy1
            have vq4 := hF.vq4
            have vq5 := hF.vq5
            have vq6 := hF.vq6
            have vq7 := hF.vq7
            have vq8 := hF.vq8
            have vq9 := hF.vq9
            have or0 := hF.or0
            have or1 := hF.or1
            have or2 := hF.or2
            have dj_r0_r1 := hF.dj_r0_r1
            have dj_r0_r2 := hF.dj_r0_r2
            have dj_r1_r2 := hF.dj_r1_r2
            have vq10 := hF.vq10
            have Bx_r0 := hF.Bx_r0
            have hb_r0 := hF.hb_r0
            have N_r0_0 := hF.N_r0_0
            have N_r1_0 := hF.N_r1_0
            have N_r2_0 := hF.N_r2_0
            have vq11 := hF.vq11
            have Bx_r1 := hF.Bx_r1
            have hb_r1 := hF.hb_r1
            have N_r0_1 := hF.N_r0_1
            have N_r1_1 := hF.N_r1_1
            have N_r2_1 := hF.N_r2_1
            have hne_r0_1 := hF.hne_r0_1
            clear hF
            have e0 : l3 = false := hz0; subst e0
            have e1 : l1 = true := hd 1 (by kernel_rfl); subst e1
            clear hz0 hd
            have B_p0 := hS.1
            have B_p1 := hS.2
            clear hS
            (try simp only [Act.put, List.setIfInBounds_toArray, List.set_cons_zero, List.set_cons_succ])
            replace k3_1 := Lib.hid k3_1
            replace k4_1 := Lib.hid k4_1
            replace k4_3 := Lib.hid k4_3
            replace vq1 := Lib.hid vq1
            replace vq10 := Lib.hid vq10
            replace vq11 := Lib.hid vq11
            replace vq3 := Lib.hid vq3
            replace vq4 := Lib.hid vq4
            replace vq5 := Lib.hid vq5
            replace vq6 := Lib.hid vq6
            replace vq7 := Lib.hid vq7
            replace vq8 := Lib.hid vq8
            replace vq9 := Lib.hid vq9
            go_simp
            refine (toPlayer_o a1 p1 _ (z1.below (V_w3'.trans (U.mono V_w3'.size))) ht1).mono ?_
            rintro e wo ⟨z', F', rfl, n1, u⟩
            replace B_p0 := (B_p0).below u
            replace B_p1 := (B_p1).below u
            refine hK.out _ _ ⟨B_p0, B_p1⟩ ?_
            have hS2 := (⟨B_p0, B_p1⟩ : (fun W => Blk W (w.heap.size) 26 #[.int .i64 a0.P, .int .i64 a0.party, .int .i64 a0.input, .int .i64 a0.mask, .int .i64 a0.delta, .slice p0.sa p0.sn p0.sc, .slice p0.ka p0.kn p0.kc, .int .i64 a0.step, .slice p0.ha p0.hn p0.hc, .int .i64 a0.status, .int .i64 a0.out] ∧ Blk W (w.heap.size + 1) 26 #[.int .i64 a1.P, .int .i64 a1.party, .int .i64 a1.input, .int .i64 a1.mask, .int .i64 a1.delta, .slice p1.sa p1.sn p1.sc, .slice p1.ka p1.kn p1.kc, .int .i64 a1.step, .slice p1.ha p1.hn p1.hc, .int .i64 a1.status, .int .i64 a1.out]) wo)
            clear hK
            try simp only [List.setIfInBounds_toArray, List.set_cons_zero, List.set_cons_succ]
            exact IH.out _ _ _ hS2 ⟨⟨true, true, l4, l10, l11, v1, .agg #[.int .i64 a1.P, .int .i64 a1.party, .int .i64 a1.input, .int .i64 a1.mask, .int .i64 a1.delta, .slice z'.sa z'.sn z'.sc, .slice z'.ka z'.kn z'.kc, .int .i64 a1.step, .slice z'.ha z'.hn z'.hc, .int .i64 a1.status, .int .i64 a1.out], v4, v10, v11, v5, v6, v7, v8, v9, y0, F_y0, z', F', r0, F_r0, r1, F_r1, r2, rn2, rc2, F_r2, bx_r0, bx_r1⟩, rfl, by kernel_rfl, (show InvRunPlayersRF w3' a0 a1 d0_0 d1_0 d2_0 d3_0 true true l4 l10 l11 v1 (.agg #[.int .i64 a1.P, .int .i64 a1.party, .int .i64 a1.input, .int .i64 a1.mask, .int .i64 a1.delta, .slice z'.sa z'.sn z'.sc, .slice z'.ka z'.kn z'.kc, .int .i64 a1.step, .slice z'.ha z'.hn z'.hc, .int .i64 a1.status, .int .i64 a1.out]) v4 v10 v11 v5 v6 v7 v8 v9 y0 F_y0 z' F' r0 F_r0 r1 F_r1 r2 rn2 rc2 F_r2 bx_r0 bx_r1 wo from ⟨((U).trans (u.mono (U).size)), (fun nd3 => rfl), (fun nd4 => (by cases k4_3.out nd4)), (fun nd4 => (by cases k4_3.out nd4)), (fun nd1 => (vq1.out nd1)), (fun nd1 => ((oy0 nd1)).below u), (fun nd3 => rfl), (fun nd3 => n1.lower U.size), (fun nd4 => (by cases k4_3.out nd4)), (fun nd4 => (by cases k4_3.out nd4)), (fun nd4 => (by cases k4_3.out nd4)), (fun nd4 => (by cases k4_3.out nd4)), (fun nd4 => (by cases k4_3.out nd4)), (fun nd4 => (by cases k4_3.out nd4)), (fun nd4 => (by cases k4_3.out nd4)), (fun nd4 => (by cases k4_3.out nd4)), (fun nd4 => (by cases k4_3.out nd4)), (fun nd4 => (by cases k4_3.out nd4)), (fun nd4 => (by cases k4_3.out nd4)), (fun nd4 => (by cases k4_3.out nd4)), (fun nd10 => (vq10.out nd10)), (fun nd10 => ((Bx_r0 nd10)).below u), (fun nd10 => ⟨((hb_r0 nd10)).1, Nat.lt_of_lt_of_le ((hb_r0 nd10)).2 u.size⟩), (fun nd4 nd10 => (by cases k4_3.out nd4)), (fun nd4 nd10 => (by cases k4_3.out nd4)), (fun nd4 nd10 => (by cases k4_3.out nd4)), (fun nd11 => (vq11.out nd11)), (fun nd11 => ((Bx_r1 nd11)).below u), (fun nd11 => ⟨((hb_r1 nd11)).1, Nat.lt_of_lt_of_le ((hb_r1 nd11)).2 u.size⟩), (fun nd4 nd11 => (by cases k4_3.out nd4)), (fun nd4 nd11 => (by cases k4_3.out nd4)), (fun nd4 nd11 => (by cases k4_3.out nd4)), (fun nd10 nd11 => (hne_r0_1 nd10 nd11))⟩)⟩
          refine StepsG.cons (o := { dst := some 38, op := _, type := _, pos := _, after := _, guard := _ }) rfl ?_ ?_
          · intro nG lJ aJ wi K IH hS hJ hz0 hd hK
            obtain ⟨dJ, hJ⟩ := hJ
            obtain ⟨e1, hJ⟩ := hJ
            obtain ⟨e2, hF⟩ := hJ
            subst e1
            subst e2
            cases dJ with | mk l1 l3 l4 l10 l11 v1 v3 v4 v10 v11 v5 v6 v7 v8 v9 y0 F_y0 y1 F_y1 r0 F_r0 r1 F_r1 r2 rn2 rc2 F_r2 bx_r0 bx_r1 =>
            replace hF : InvRunPlayersRF w3' a0 a1 d0_0 d1_0 d2_0 d3_0 l1 l3 l4 l10 l11 v1 v3 v4 v10 v11 v5 v6 v7 v8 v9 y0 F_y0 y1 F_y1 r0 F_r0 r1 F_r1 r2 rn2 rc2 F_r2 bx_r0 bx_r1 wi := hF
            have U := hF.U
            have k3_1 := hF.k3_1
            have k4_1 := hF.k4_1
            have k4_3 := hF.k4_3
            have vq1 := hF.vq1
            have oy0 := hF.oy0
            have vq3 := hF.vq3
            have oy1 := hF.oy1
            have vq4 := hF.vq4
            have vq5 := hF.vq5
            have vq6 := hF.vq6
            have vq7 := hF.vq7
            have vq8 := hF.vq8
            have vq9 := hF.vq9
            have or0 := hF.or0
            have or1 := hF.or1
            have or2 := hF.or2
            have dj_r0_r1 := hF.dj_r0_r1
            have dj_r0_r2 := hF.dj_r0_r2
            have dj_r1_r2 := hF.dj_r1_r2
            have vq10 := hF.vq10
            have Bx_r0 := hF.Bx_r0
            have hb_r0 := hF.hb_r0
            have N_r0_0 := hF.N_r0_0
            have N_r1_0 := hF.N_r1_0
            have N_r2_0 := hF.N_r2_0
            have vq11 := hF.vq11
            have Bx_r1 := hF.Bx_r1
            have hb_r1 := hF.hb_r1
            have N_r0_1 := hF.N_r0_1
            have N_r1_1 := hF.N_r1_1
            have N_r2_1 := hF.N_r2_1
            have hne_r0_1 := hF.hne_r0_1
            clear hF
            have e0 : l4 = false := hz0; subst e0
            have e1 : l1 = true := hd 1 (by kernel_rfl); subst e1
            have e3 : l3 = true := hd 3 (by kernel_rfl); subst e3
            clear hz0 hd
            have B_p0 := hS.1
            have B_p1 := hS.2
            clear hS
            (try simp only [Act.put, List.setIfInBounds_toArray, List.set_cons_zero, List.set_cons_succ])
            have g' := vq1 rfl; subst g'
            have g' := vq3 rfl; subst g'
            replace k3_1 := Lib.hid k3_1
            replace k4_1 := Lib.hid k4_1
            replace k4_3 := Lib.hid k4_3
            replace vq1 := Lib.hid vq1
            replace vq10 := Lib.hid vq10
            replace vq11 := Lib.hid vq11
            replace vq3 := Lib.hid vq3
            replace vq4 := Lib.hid vq4
            replace vq5 := Lib.hid vq5
            replace vq6 := Lib.hid vq6
            replace vq7 := Lib.hid vq7
            replace vq8 := Lib.hid vq8
            replace vq9 := Lib.hid vq9
            go_simp
            refine (CS.out _ _ _ (oy0 rfl).rd (oy1 rfl).rd (LX.out.below (V_w3'.trans (U.mono V_w3'.size)))).mono ?_
            rintro e wo ⟨r0', F_r0', r1', F_r1', r2', rn2', rc2', F_r2', rfl, n0, n1, n2, dj_r0_r1', dj_r0_r2', dj_r1_r2', u⟩
            replace B_p0 := (B_p0).below u
            replace B_p1 := (B_p1).below u
            refine hK.out _ _ ⟨B_p0, B_p1⟩ ?_
            have hS2 := (⟨B_p0, B_p1⟩ : (fun W => Blk W (w.heap.size) 26 #[.int .i64 a0.P, .int .i64 a0.party, .int .i64 a0.input, .int .i64 a0.mask, .int .i64 a0.delta, .slice p0.sa p0.sn p0.sc, .slice p0.ka p0.kn p0.kc, .int .i64 a0.step, .slice p0.ha p0.hn p0.hc, .int .i64 a0.status, .int .i64 a0.out] ∧ Blk W (w.heap.size + 1) 26 #[.int .i64 a1.P, .int .i64 a1.party, .int .i64 a1.input, .int .i64 a1.mask, .int .i64 a1.delta, .slice p1.sa p1.sn p1.sc, .slice p1.ka p1.kn p1.kc, .int .i64 a1.step, .slice p1.ha p1.hn p1.hc, .int .i64 a1.status, .int .i64 a1.out]) wo)
            clear hK
            try simp only [List.setIfInBounds_toArray, List.set_cons_zero, List.set_cons_succ]
            refine GoI.take (i := 5) (oi := { dst := some 33, op := _, type := _, pos := _, after := _, guard := _ }) (v := .tuple #[.agg #[.int .i64 d0_0.P, .int .i64 d0_0.party, .int .i64 d0_0.input, .int .i64 d0_0.mask, .int .i64 d0_0.delta, .slice r0'.sa r0'.sn r0'.sc, .slice r0'.ka r0'.kn r0'.kc, .int .i64 d0_0.step, .slice r0'.ha r0'.hn r0'.hc, .int .i64 d0_0.status, .int .i64 d0_0.out], .agg #[.int .i64 d1_0.P, .int .i64 d1_0.party, .int .i64 d1_0.input, .int .i64 d1_0.mask, .int .i64 d1_0.delta, .slice r1'.sa r1'.sn r1'.sc, .slice r1'.ka r1'.kn r1'.kc, .int .i64 d1_0.step, .slice r1'.ha r1'.hn r1'.hc, .int .i64 d1_0.status, .int .i64 d1_0.out], .slice r2' rn2' rc2', .bool d3_0]) rfl (by kernel_rfl) (by cases l10 <;> cases l11 <;> kernel_rfl) (by cases l10 <;> cases l11 <;> kernel_rfl) (fun _ _ _ h => h) (Or.inl ⟨by rfl, by intro w _; first | (go_simp; done) | (go_simp; with_reducible rfl) | (with_reducible rfl)⟩) hS2 ?_
            (try simp only [Act.put, List.setIfInBounds_toArray, List.set_cons_zero, List.set_cons_succ])
            refine GoI.take (i := 6) (oi := { dst := some 39, op := _, type := _, pos := _, after := _, guard := _ }) (v := .agg #[.int .i64 d0_0.P, .int .i64 d0_0.party, .int .i64 d0_0.input, .int .i64 d0_0.mask, .int .i64 d0_0.delta, .slice r0'.sa r0'.sn r0'.sc, .slice r0'.ka r0'.kn r0'.kc, .int .i64 d0_0.step, .slice r0'.ha r0'.hn r0'.hc, .int .i64 d0_0.status, .int .i64 d0_0.out]) rfl (by kernel_rfl) (by cases l10 <;> cases l11 <;> kernel_rfl) (by cases l10 <;> cases l11 <;> kernel_rfl) (fun _ _ _ h => h) (Or.inl ⟨by rfl, by intro w _; first | (go_simp; done) | (go_simp; with_reducible rfl) | (with_reducible rfl)⟩) hS2 ?_
            (try simp only [Act.put, List.setIfInBounds_toArray, List.set_cons_zero, List.set_cons_succ])
            refine GoI.take (i := 7) (oi := { dst := some 40, op := _, type := _, pos := _, after := _, guard := _ }) (v := .agg #[.int .i64 d1_0.P, .int .i64 d1_0.party, .int .i64 d1_0.input, .int .i64 d1_0.mask, .int .i64 d1_0.delta, .slice r1'.sa r1'.sn r1'.sc, .slice r1'.ka r1'.kn r1'.kc, .int .i64 d1_0.step, .slice r1'.ha r1'.hn r1'.hc, .int .i64 d1_0.status, .int .i64 d1_0.out]) rfl (by kernel_rfl) (by cases l10 <;> cases l11 <;> kernel_rfl) (by cases l10 <;> cases l11 <;> kernel_rfl) (fun _ _ _ h => h) (Or.inl ⟨by rfl, by intro w _; first | (go_simp; done) | (go_simp; with_reducible rfl) | (with_reducible rfl)⟩) hS2 ?_
            (try simp only [Act.put, List.setIfInBounds_toArray, List.set_cons_zero, List.set_cons_succ])
            refine GoI.take (i := 8) (oi := { dst := some 41, op := _, type := _, pos := _, after := _, guard := _ }) (v := .slice r2' rn2' rc2') rfl (by kernel_rfl) (by cases l10 <;> cases l11 <;> kernel_rfl) (by cases l10 <;> cases l11 <;> kernel_rfl) (fun _ _ _ h => h) (Or.inl ⟨by rfl, by intro w _; first | (go_simp; done) | (go_simp; with_reducible rfl) | (with_reducible rfl)⟩) hS2 ?_
            (try simp only [Act.put, List.setIfInBounds_toArray, List.set_cons_zero, List.set_cons_succ])
            refine GoI.take (i := 9) (oi := { dst := some 42, op := _, type := _, pos := _, after := _, guard := _ }) (v := .bool d3_0) rfl (by kernel_rfl) (by cases l10 <;> cases l11 <;> kernel_rfl) (by cases l10 <;> cases l11 <;> kernel_rfl) (fun _ _ _ h => h) (Or.inl ⟨by rfl, by intro w _; first | (go_simp; done) | (go_simp; with_reducible rfl) | (with_reducible rfl)⟩) hS2 ?_
            (try simp only [Act.put, List.setIfInBounds_toArray, List.set_cons_zero, List.set_cons_succ])
            exact IH.out _ _ _ hS2 ⟨⟨true, true, true, l10, l11, .agg #[.int .i64 a0.P, .int .i64 a0.party, .int .i64 a0.input, .int .i64 a0.mask, .int .i64 a0.delta, .slice y0.sa y0.sn y0.sc, .slice y0.ka y0.kn y0.kc, .int .i64 a0.step, .slice y0.ha y0.hn y0.hc, .int .i64 a0.status, .int .i64 a0.out], .agg #[.int .i64 a1.P, .int .i64 a1.party, .int .i64 a1.input, .int .i64 a1.mask, .int .i64 a1.delta, .slice y1.sa y1.sn y1.sc, .slice y1.ka y1.kn y1.kc, .int .i64 a1.step, .slice y1.ha y1.hn y1.hc, .int .i64 a1.status, .int .i64 a1.out], .tuple #[.agg #[.int .i64 d0_0.P, .int .i64 d0_0.party, .int .i64 d0_0.input, .int .i64 d0_0.mask, .int .i64 d0_0.delta, .slice r0'.sa r0'.sn r0'.sc, .slice r0'.ka r0'.kn r0'.kc, .int .i64 d0_0.step, .slice r0'.ha r0'.hn r0'.hc, .int .i64 d0_0.status, .int .i64 d0_0.out], .agg #[.int .i64 d1_0.P, .int .i64 d1_0.party, .int .i64 d1_0.input, .int .i64 d1_0.mask, .int .i64 d1_0.delta, .slice r1'.sa r1'.sn r1'.sc, .slice r1'.ka r1'.kn r1'.kc, .int .i64 d1_0.step, .slice r1'.ha r1'.hn r1'.hc, .int .i64 d1_0.status, .int .i64 d1_0.out], .slice r2' rn2' rc2', .bool d3_0], v10, v11, .tuple #[.agg #[.int .i64 d0_0.P, .int .i64 d0_0.party, .int .i64 d0_0.input, .int .i64 d0_0.mask, .int .i64 d0_0.delta, .slice r0'.sa r0'.sn r0'.sc, .slice r0'.ka r0'.kn r0'.kc, .int .i64 d0_0.step, .slice r0'.ha r0'.hn r0'.hc, .int .i64 d0_0.status, .int .i64 d0_0.out], .agg #[.int .i64 d1_0.P, .int .i64 d1_0.party, .int .i64 d1_0.input, .int .i64 d1_0.mask, .int .i64 d1_0.delta, .slice r1'.sa r1'.sn r1'.sc, .slice r1'.ka r1'.kn r1'.kc, .int .i64 d1_0.step, .slice r1'.ha r1'.hn r1'.hc, .int .i64 d1_0.status, .int .i64 d1_0.out], .slice r2' rn2' rc2', .bool d3_0], .agg #[.int .i64 d0_0.P, .int .i64 d0_0.party, .int .i64 d0_0.input, .int .i64 d0_0.mask, .int .i64 d0_0.delta, .slice r0'.sa r0'.sn r0'.sc, .slice r0'.ka r0'.kn r0'.kc, .int .i64 d0_0.step, .slice r0'.ha r0'.hn r0'.hc, .int .i64 d0_0.status, .int .i64 d0_0.out], .agg #[.int .i64 d1_0.P, .int .i64 d1_0.party, .int .i64 d1_0.input, .int .i64 d1_0.mask, .int .i64 d1_0.delta, .slice r1'.sa r1'.sn r1'.sc, .slice r1'.ka r1'.kn r1'.kc, .int .i64 d1_0.step, .slice r1'.ha r1'.hn r1'.hc, .int .i64 d1_0.status, .int .i64 d1_0.out], .slice r2' rn2' rc2', .bool d3_0, y0, F_y0, y1, F_y1, r0', F_r0', r1', F_r1', r2', rn2', rc2', F_r2', bx_r0, bx_r1⟩, rfl, by kernel_rfl, (show InvRunPlayersRF w3' a0 a1 d0_0 d1_0 d2_0 d3_0 true true true l10 l11 (.agg #[.int .i64 a0.P, .int .i64 a0.party, .int .i64 a0.input, .int .i64 a0.mask, .int .i64 a0.delta, .slice y0.sa y0.sn y0.sc, .slice y0.ka y0.kn y0.kc, .int .i64 a0.step, .slice y0.ha y0.hn y0.hc, .int .i64 a0.status, .int .i64 a0.out]) (.agg #[.int .i64 a1.P, .int .i64 a1.party, .int .i64 a1.input, .int .i64 a1.mask, .int .i64 a1.delta, .slice y1.sa y1.sn y1.sc, .slice y1.ka y1.kn y1.kc, .int .i64 a1.step, .slice y1.ha y1.hn y1.hc, .int .i64 a1.status, .int .i64 a1.out]) (.tuple #[.agg #[.int .i64 d0_0.P, .int .i64 d0_0.party, .int .i64 d0_0.input, .int .i64 d0_0.mask, .int .i64 d0_0.delta, .slice r0'.sa r0'.sn r0'.sc, .slice r0'.ka r0'.kn r0'.kc, .int .i64 d0_0.step, .slice r0'.ha r0'.hn r0'.hc, .int .i64 d0_0.status, .int .i64 d0_0.out], .agg #[.int .i64 d1_0.P, .int .i64 d1_0.party, .int .i64 d1_0.input, .int .i64 d1_0.mask, .int .i64 d1_0.delta, .slice r1'.sa r1'.sn r1'.sc, .slice r1'.ka r1'.kn r1'.kc, .int .i64 d1_0.step, .slice r1'.ha r1'.hn r1'.hc, .int .i64 d1_0.status, .int .i64 d1_0.out], .slice r2' rn2' rc2', .bool d3_0]) v10 v11 (.tuple #[.agg #[.int .i64 d0_0.P, .int .i64 d0_0.party, .int .i64 d0_0.input, .int .i64 d0_0.mask, .int .i64 d0_0.delta, .slice r0'.sa r0'.sn r0'.sc, .slice r0'.ka r0'.kn r0'.kc, .int .i64 d0_0.step, .slice r0'.ha r0'.hn r0'.hc, .int .i64 d0_0.status, .int .i64 d0_0.out], .agg #[.int .i64 d1_0.P, .int .i64 d1_0.party, .int .i64 d1_0.input, .int .i64 d1_0.mask, .int .i64 d1_0.delta, .slice r1'.sa r1'.sn r1'.sc, .slice r1'.ka r1'.kn r1'.kc, .int .i64 d1_0.step, .slice r1'.ha r1'.hn r1'.hc, .int .i64 d1_0.status, .int .i64 d1_0.out], .slice r2' rn2' rc2', .bool d3_0]) (.agg #[.int .i64 d0_0.P, .int .i64 d0_0.party, .int .i64 d0_0.input, .int .i64 d0_0.mask, .int .i64 d0_0.delta, .slice r0'.sa r0'.sn r0'.sc, .slice r0'.ka r0'.kn r0'.kc, .int .i64 d0_0.step, .slice r0'.ha r0'.hn r0'.hc, .int .i64 d0_0.status, .int .i64 d0_0.out]) (.agg #[.int .i64 d1_0.P, .int .i64 d1_0.party, .int .i64 d1_0.input, .int .i64 d1_0.mask, .int .i64 d1_0.delta, .slice r1'.sa r1'.sn r1'.sc, .slice r1'.ka r1'.kn r1'.kc, .int .i64 d1_0.step, .slice r1'.ha r1'.hn r1'.hc, .int .i64 d1_0.status, .int .i64 d1_0.out]) (.slice r2' rn2' rc2') (.bool d3_0) y0 F_y0 y1 F_y1 r0' F_r0' r1' F_r1' r2' rn2' rc2' F_r2' bx_r0 bx_r1 wo from ⟨((U).trans (u.mono (U).size)), (fun nd3 => (k3_1.out nd3)), (fun nd4 => rfl), (fun nd4 => rfl), (fun nd1 => (vq1.out nd1)), (fun nd1 => ((oy0 nd1)).below u), (fun nd3 => (vq3.out nd3)), (fun nd3 => ((oy1 nd3)).below u), (fun nd4 => rfl), (fun nd4 => rfl), (fun nd4 => rfl), (fun nd4 => rfl), (fun nd4 => rfl), (fun nd4 => rfl), (fun nd4 => n0.lower U.size), (fun nd4 => n1.lower U.size), (fun nd4 => n2.lower U.size), (fun nd4 => dj_r0_r1'), (fun nd4 => dj_r0_r2'), (fun nd4 => dj_r1_r2'), (fun nd10 => (vq10.out nd10)), (fun nd10 => ((Bx_r0 nd10)).below u), (fun nd10 => ⟨((hb_r0 nd10)).1, Nat.lt_of_lt_of_le ((hb_r0 nd10)).2 u.size⟩), (fun nd4 nd10 => fun k hk => by have := n0.feet k hk; have := (hb_r0 nd10).2; omega), (fun nd4 nd10 => fun k hk => by have := n1.feet k hk; have := (hb_r0 nd10).2; omega), (fun nd4 nd10 => fun k hk => by have := n2.feet k hk; have := (hb_r0 nd10).2; omega), (fun nd11 => (vq11.out nd11)), (fun nd11 => ((Bx_r1 nd11)).below u), (fun nd11 => ⟨((hb_r1 nd11)).1, Nat.lt_of_lt_of_le ((hb_r1 nd11)).2 u.size⟩), (fun nd4 nd11 => fun k hk => by have := n0.feet k hk; have := (hb_r1 nd11).2; omega), (fun nd4 nd11 => fun k hk => by have := n1.feet k hk; have := (hb_r1 nd11).2; omega), (fun nd4 nd11 => fun k hk => by have := n2.feet k hk; have := (hb_r1 nd11).2; omega), (fun nd10 nd11 => (hne_r0_1 nd10 nd11))⟩)⟩
          refine StepsG.cons (o := { dst := some 6, op := _, type := _, pos := _, after := _, guard := _ }) rfl ?_ ?_
          · intro nG lJ aJ wi K IH hS hJ hz0 hd hK
            obtain ⟨dJ, hJ⟩ := hJ
            obtain ⟨e1, hJ⟩ := hJ
            obtain ⟨e2, hF⟩ := hJ
            subst e1
            subst e2
            cases dJ with | mk l1 l3 l4 l10 l11 v1 v3 v4 v10 v11 v5 v6 v7 v8 v9 y0 F_y0 y1 F_y1 r0 F_r0 r1 F_r1 r2 rn2 rc2 F_r2 bx_r0 bx_r1 =>
            replace hF : InvRunPlayersRF w3' a0 a1 d0_0 d1_0 d2_0 d3_0 l1 l3 l4 l10 l11 v1 v3 v4 v10 v11 v5 v6 v7 v8 v9 y0 F_y0 y1 F_y1 r0 F_r0 r1 F_r1 r2 rn2 rc2 F_r2 bx_r0 bx_r1 wi := hF
            have U := hF.U
            have k3_1 := hF.k3_1
            have k4_1 := hF.k4_1
            have k4_3 := hF.k4_3
            have vq1 := hF.vq1
            have oy0 := hF.oy0
            have vq3 := hF.vq3
            have oy1 := hF.oy1
            have vq4 := hF.vq4
            have vq5 := hF.vq5
            have vq6 := hF.vq6
            have vq7 := hF.vq7
            have vq8 := hF.vq8
            have vq9 := hF.vq9
            have or0 := hF.or0
            have or1 := hF.or1
            have or2 := hF.or2
            have dj_r0_r1 := hF.dj_r0_r1
            have dj_r0_r2 := hF.dj_r0_r2
            have dj_r1_r2 := hF.dj_r1_r2
            have vq10 := hF.vq10
            have Bx_r0 := hF.Bx_r0
            have hb_r0 := hF.hb_r0
            have N_r0_0 := hF.N_r0_0
            have N_r1_0 := hF.N_r1_0
            have N_r2_0 := hF.N_r2_0
            have vq11 := hF.vq11
            have Bx_r1 := hF.Bx_r1
            have hb_r1 := hF.hb_r1
            have N_r0_1 := hF.N_r0_1
            have N_r1_1 := hF.N_r1_1
            have N_r2_1 := hF.N_r2_1
            have hne_r0_1 := hF.hne_r0_1
            clear hF
            have e0 : l10 = false := hz0; subst e0
            clear hz0 hd
            have B_p0 := hS.1
            have B_p1 := hS.2
            clear hS
            (try simp only [Act.put, List.setIfInBounds_toArray, List.set_cons_zero, List.set_cons_succ])
            replace k3_1 := Lib.hid k3_1
            replace k4_1 := Lib.hid k4_1
            replace k4_3 := Lib.hid k4_3
            replace vq1 := Lib.hid vq1
            replace vq10 := Lib.hid vq10
            replace vq11 := Lib.hid vq11
            replace vq3 := Lib.hid vq3
            replace vq4 := Lib.hid vq4
            replace vq5 := Lib.hid vq5
            replace vq6 := Lib.hid vq6
            replace vq7 := Lib.hid vq7
            replace vq8 := Lib.hid vq8
            replace vq9 := Lib.hid vq9
            go_simp
            refine Exists.elim (Blk.new_ wi rfl 31 #[.int .i64 0, .int .i64 0, .int .i64 0, .int .i64 0, .int .i64 0, .slice none 0 0, .slice none 0 0, .int .i64 0, .slice none 0 0, .int .i64 0, .int .i64 0]) (fun wo q => ?_)
            rw [q.1]
            have B_r0 := q.2.1; have u := q.2.2.2; have ha : wi.heap.size < wo.heap.size := Nat.le_of_eq q.2.2.1.symm; clear q
            replace B_p0 := (B_p0).below u
            replace B_p1 := (B_p1).below u
            refine hK.out _ _ ⟨B_p0, B_p1⟩ ?_
            have hS2 := (⟨B_p0, B_p1⟩ : (fun W => Blk W (w.heap.size) 26 #[.int .i64 a0.P, .int .i64 a0.party, .int .i64 a0.input, .int .i64 a0.mask, .int .i64 a0.delta, .slice p0.sa p0.sn p0.sc, .slice p0.ka p0.kn p0.kc, .int .i64 a0.step, .slice p0.ha p0.hn p0.hc, .int .i64 a0.status, .int .i64 a0.out] ∧ Blk W (w.heap.size + 1) 26 #[.int .i64 a1.P, .int .i64 a1.party, .int .i64 a1.input, .int .i64 a1.mask, .int .i64 a1.delta, .slice p1.sa p1.sn p1.sc, .slice p1.ka p1.kn p1.kc, .int .i64 a1.step, .slice p1.ha p1.hn p1.hc, .int .i64 a1.status, .int .i64 a1.out]) wo)
            clear hK
            try simp only [List.setIfInBounds_toArray, List.set_cons_zero, List.set_cons_succ]
            exact IH.out _ _ _ hS2 ⟨⟨l1, l3, l4, true, l11, v1, v3, v4, .pointer (some ⟨wi.heap.size, 0, none⟩), v11, v5, v6, v7, v8, v9, y0, F_y0, y1, F_y1, r0, F_r0, r1, F_r1, r2, rn2, rc2, F_r2, wi.heap.size, bx_r1⟩, rfl, by kernel_rfl, (show InvRunPlayersRF w3' a0 a1 d0_0 d1_0 d2_0 d3_0 l1 l3 l4 true l11 v1 v3 v4 (.pointer (some ⟨wi.heap.size, 0, none⟩)) v11 v5 v6 v7 v8 v9 y0 F_y0 y1 F_y1 r0 F_r0 r1 F_r1 r2 rn2 rc2 F_r2 wi.heap.size bx_r1 wo from ⟨((U).trans (u.mono (U).size)), (fun nd3 => (k3_1.out nd3)), (fun nd4 => (k4_1.out nd4)), (fun nd4 => (k4_3.out nd4)), (fun nd1 => (vq1.out nd1)), (fun nd1 => ((oy0 nd1)).below u), (fun nd3 => (vq3.out nd3)), (fun nd3 => ((oy1 nd3)).below u), (fun nd4 => (vq4.out nd4)), (fun nd4 => (vq5.out nd4)), (fun nd4 => (vq6.out nd4)), (fun nd4 => (vq7.out nd4)), (fun nd4 => (vq8.out nd4)), (fun nd4 => (vq9.out nd4)), (fun nd4 => ((or0 nd4)).below u), (fun nd4 => ((or1 nd4)).below u), (fun nd4 => ((or2 nd4)).below u), (fun nd4 => (dj_r0_r1 nd4)), (fun nd4 => (dj_r0_r2 nd4)), (fun nd4 => (dj_r1_r2 nd4)), (fun nd10 => rfl), (fun nd10 => B_r0), (fun nd10 => ⟨U.size, ha⟩), (fun nd4 nd10 => fun k hk => by have := (or0 nd4).feet k hk; omega), (fun nd4 nd10 => fun k hk => by have := (or1 nd4).feet k hk; omega), (fun nd4 nd10 => fun k hk => by have := (or2 nd4).feet k hk; omega), (fun nd11 => (vq11.out nd11)), (fun nd11 => ((Bx_r1 nd11)).below u), (fun nd11 => ⟨((hb_r1 nd11)).1, Nat.lt_of_lt_of_le ((hb_r1 nd11)).2 u.size⟩), (fun nd4 nd11 => (N_r0_1 nd4 nd11)), (fun nd4 nd11 => (N_r1_1 nd4 nd11)), (fun nd4 nd11 => (N_r2_1 nd4 nd11)), (fun nd10 nd11 => by have := (hb_r1 nd11).2; omega)⟩)⟩
          refine StepsG.cons (o := { dst := some 7, op := _, type := _, pos := _, after := _, guard := _ }) rfl ?_ ?_
          · intro nG lJ aJ wi K IH hS hJ hz0 hd hK
            obtain ⟨dJ, hJ⟩ := hJ
            obtain ⟨e1, hJ⟩ := hJ
            obtain ⟨e2, hF⟩ := hJ
            subst e1
            subst e2
            cases dJ with | mk l1 l3 l4 l10 l11 v1 v3 v4 v10 v11 v5 v6 v7 v8 v9 y0 F_y0 y1 F_y1 r0 F_r0 r1 F_r1 r2 rn2 rc2 F_r2 bx_r0 bx_r1 =>
            replace hF : InvRunPlayersRF w3' a0 a1 d0_0 d1_0 d2_0 d3_0 l1 l3 l4 l10 l11 v1 v3 v4 v10 v11 v5 v6 v7 v8 v9 y0 F_y0 y1 F_y1 r0 F_r0 r1 F_r1 r2 rn2 rc2 F_r2 bx_r0 bx_r1 wi := hF
            have U := hF.U
            have k3_1 := hF.k3_1
            have k4_1 := hF.k4_1
            have k4_3 := hF.k4_3
            have vq1 := hF.vq1
            have oy0 := hF.oy0
            have vq3 := hF.vq3
            have oy1 := hF.oy1
            have vq4 := hF.vq4
            have vq5 := hF.vq5
            have vq6 := hF.vq6
            have vq7 := hF.vq7
            have vq8 := hF.vq8
            have vq9 := hF.vq9
            have or0 := hF.or0
            have or1 := hF.or1
            have or2 := hF.or2
            have dj_r0_r1 := hF.dj_r0_r1
            have dj_r0_r2 := hF.dj_r0_r2
            have dj_r1_r2 := hF.dj_r1_r2
            have vq10 := hF.vq10
            have Bx_r0 := hF.Bx_r0
            have hb_r0 := hF.hb_r0
            have N_r0_0 := hF.N_r0_0
            have N_r1_0 := hF.N_r1_0
            have N_r2_0 := hF.N_r2_0
            have vq11 := hF.vq11
            have Bx_r1 := hF.Bx_r1
            have hb_r1 := hF.hb_r1
            have N_r0_1 := hF.N_r0_1
            have N_r1_1 := hF.N_r1_1
            have N_r2_1 := hF.N_r2_1
            have hne_r0_1 := hF.hne_r0_1
            clear hF
            have e0 : l11 = false := hz0; subst e0
            clear hz0 hd
            have B_p0 := hS.1
            have B_p1 := hS.2
            clear hS
            (try simp only [Act.put, List.setIfInBounds_toArray, List.set_cons_zero, List.set_cons_succ])
            replace k3_1 := Lib.hid k3_1
            replace k4_1 := Lib.hid k4_1
            replace k4_3 := Lib.hid k4_3
            replace vq1 := Lib.hid vq1
            replace vq10 := Lib.hid vq10
            replace vq11 := Lib.hid vq11
            replace vq3 := Lib.hid vq3
            replace vq4 := Lib.hid vq4
            replace vq5 := Lib.hid vq5
            replace vq6 := Lib.hid vq6
            replace vq7 := Lib.hid vq7
            replace vq8 := Lib.hid vq8
            replace vq9 := Lib.hid vq9
            go_simp
            refine Exists.elim (Blk.new_ wi rfl 31 #[.int .i64 0, .int .i64 0, .int .i64 0, .int .i64 0, .int .i64 0, .slice none 0 0, .slice none 0 0, .int .i64 0, .slice none 0 0, .int .i64 0, .int .i64 0]) (fun wo q => ?_)
            rw [q.1]
            have B_r1 := q.2.1; have u := q.2.2.2; have ha : wi.heap.size < wo.heap.size := Nat.le_of_eq q.2.2.1.symm; clear q
            replace B_p0 := (B_p0).below u
            replace B_p1 := (B_p1).below u
            refine hK.out _ _ ⟨B_p0, B_p1⟩ ?_
            have hS2 := (⟨B_p0, B_p1⟩ : (fun W => Blk W (w.heap.size) 26 #[.int .i64 a0.P, .int .i64 a0.party, .int .i64 a0.input, .int .i64 a0.mask, .int .i64 a0.delta, .slice p0.sa p0.sn p0.sc, .slice p0.ka p0.kn p0.kc, .int .i64 a0.step, .slice p0.ha p0.hn p0.hc, .int .i64 a0.status, .int .i64 a0.out] ∧ Blk W (w.heap.size + 1) 26 #[.int .i64 a1.P, .int .i64 a1.party, .int .i64 a1.input, .int .i64 a1.mask, .int .i64 a1.delta, .slice p1.sa p1.sn p1.sc, .slice p1.ka p1.kn p1.kc, .int .i64 a1.step, .slice p1.ha p1.hn p1.hc, .int .i64 a1.status, .int .i64 a1.out]) wo)
            clear hK
            try simp only [List.setIfInBounds_toArray, List.set_cons_zero, List.set_cons_succ]
            exact IH.out _ _ _ hS2 ⟨⟨l1, l3, l4, l10, true, v1, v3, v4, v10, .pointer (some ⟨wi.heap.size, 0, none⟩), v5, v6, v7, v8, v9, y0, F_y0, y1, F_y1, r0, F_r0, r1, F_r1, r2, rn2, rc2, F_r2, bx_r0, wi.heap.size⟩, rfl, by kernel_rfl, (show InvRunPlayersRF w3' a0 a1 d0_0 d1_0 d2_0 d3_0 l1 l3 l4 l10 true v1 v3 v4 v10 (.pointer (some ⟨wi.heap.size, 0, none⟩)) v5 v6 v7 v8 v9 y0 F_y0 y1 F_y1 r0 F_r0 r1 F_r1 r2 rn2 rc2 F_r2 bx_r0 wi.heap.size wo from ⟨((U).trans (u.mono (U).size)), (fun nd3 => (k3_1.out nd3)), (fun nd4 => (k4_1.out nd4)), (fun nd4 => (k4_3.out nd4)), (fun nd1 => (vq1.out nd1)), (fun nd1 => ((oy0 nd1)).below u), (fun nd3 => (vq3.out nd3)), (fun nd3 => ((oy1 nd3)).below u), (fun nd4 => (vq4.out nd4)), (fun nd4 => (vq5.out nd4)), (fun nd4 => (vq6.out nd4)), (fun nd4 => (vq7.out nd4)), (fun nd4 => (vq8.out nd4)), (fun nd4 => (vq9.out nd4)), (fun nd4 => ((or0 nd4)).below u), (fun nd4 => ((or1 nd4)).below u), (fun nd4 => ((or2 nd4)).below u), (fun nd4 => (dj_r0_r1 nd4)), (fun nd4 => (dj_r0_r2 nd4)), (fun nd4 => (dj_r1_r2 nd4)), (fun nd10 => (vq10.out nd10)), (fun nd10 => ((Bx_r0 nd10)).below u), (fun nd10 => ⟨((hb_r0 nd10)).1, Nat.lt_of_lt_of_le ((hb_r0 nd10)).2 u.size⟩), (fun nd4 nd10 => (N_r0_0 nd4 nd10)), (fun nd4 nd10 => (N_r1_0 nd4 nd10)), (fun nd4 nd10 => (N_r2_0 nd4 nd10)), (fun nd11 => rfl), (fun nd11 => B_r1), (fun nd11 => ⟨U.size, ha⟩), (fun nd4 nd11 => fun k hk => by have := (or0 nd4).feet k hk; omega), (fun nd4 nd11 => fun k hk => by have := (or1 nd4).feet k hk; omega), (fun nd4 nd11 => fun k hk => by have := (or2 nd4).feet k hk; omega), (fun nd10 nd11 => by have := (hb_r0 nd10).2; omega)⟩)⟩
          exact StepsG.nil
        case he =>
          intro aJ wc hS hJ
          obtain ⟨dJ, hJ⟩ := hJ
          obtain ⟨hl, hJ⟩ := hJ
          obtain ⟨e2, hF⟩ := hJ
          subst e2
          cases dJ with | mk l1 l3 l4 l10 l11 v1 v3 v4 v10 v11 v5 v6 v7 v8 v9 y0 F_y0 y1 F_y1 r0 F_r0 r1 F_r1 r2 rn2 rc2 F_r2 bx_r0 bx_r1 =>
          replace hF : InvRunPlayersRF w3' a0 a1 d0_0 d1_0 d2_0 d3_0 l1 l3 l4 l10 l11 v1 v3 v4 v10 v11 v5 v6 v7 v8 v9 y0 F_y0 y1 F_y1 r0 F_r0 r1 F_r1 r2 rn2 rc2 F_r2 bx_r0 bx_r1 wc := hF
          have U := hF.U
          have k3_1 := hF.k3_1
          have k4_1 := hF.k4_1
          have k4_3 := hF.k4_3
          have vq1 := hF.vq1
          have oy0 := hF.oy0
          have vq3 := hF.vq3
          have oy1 := hF.oy1
          have vq4 := hF.vq4
          have vq5 := hF.vq5
          have vq6 := hF.vq6
          have vq7 := hF.vq7
          have vq8 := hF.vq8
          have vq9 := hF.vq9
          have or0 := hF.or0
          have or1 := hF.or1
          have or2 := hF.or2
          have dj_r0_r1 := hF.dj_r0_r1
          have dj_r0_r2 := hF.dj_r0_r2
          have dj_r1_r2 := hF.dj_r1_r2
          have vq10 := hF.vq10
          have Bx_r0 := hF.Bx_r0
          have hb_r0 := hF.hb_r0
          have N_r0_0 := hF.N_r0_0
          have N_r1_0 := hF.N_r1_0
          have N_r2_0 := hF.N_r2_0
          have vq11 := hF.vq11
          have Bx_r1 := hF.Bx_r1
          have hb_r1 := hF.hb_r1
          have N_r0_1 := hF.N_r0_1
          have N_r1_1 := hF.N_r1_1
          have N_r2_1 := hF.N_r2_1
          have hne_r0_1 := hF.hne_r0_1
          clear hF
          have e1 : true = l1 := congrArg (fun q : Array Bool => q.getD 1 true) hl; subst e1
          have e3 : true = l3 := congrArg (fun q : Array Bool => q.getD 3 true) hl; subst e3
          have e4 : true = l4 := congrArg (fun q : Array Bool => q.getD 4 true) hl; subst e4
          have e10 : true = l10 := congrArg (fun q : Array Bool => q.getD 10 true) hl; subst e10
          have e11 : true = l11 := congrArg (fun q : Array Bool => q.getD 11 true) hl; subst e11
          clear hl k3_1 k4_1 k4_3
          replace vq1 := vq1 rfl
          replace oy0 := oy0 rfl
          replace vq3 := vq3 rfl
          replace oy1 := oy1 rfl
          replace vq4 := vq4 rfl
          replace vq5 := vq5 rfl
          replace vq6 := vq6 rfl
          replace vq7 := vq7 rfl
          replace vq8 := vq8 rfl
          replace vq9 := vq9 rfl
          replace or0 := or0 rfl
          replace or1 := or1 rfl
          replace or2 := or2 rfl
          replace dj_r0_r1 := dj_r0_r1 rfl
          replace dj_r0_r2 := dj_r0_r2 rfl
          replace dj_r1_r2 := dj_r1_r2 rfl
          replace vq10 := vq10 rfl
          replace Bx_r0 := Bx_r0 rfl
          replace hb_r0 := hb_r0 rfl
          replace N_r0_0 := N_r0_0 rfl rfl
          replace N_r1_0 := N_r1_0 rfl rfl
          replace N_r2_0 := N_r2_0 rfl rfl
          replace vq11 := vq11 rfl
          replace Bx_r1 := Bx_r1 rfl
          replace hb_r1 := hb_r1 rfl
          replace N_r0_1 := N_r0_1 rfl rfl
          replace N_r1_1 := N_r1_1 rfl rfl
          replace N_r2_1 := N_r2_1 rfl rfl
          replace hne_r0_1 := hne_r0_1 rfl rfl
          have hHeld := hS
          have B_p0 := hS.1
          have B_p1 := hS.2
          clear hS
          (try simp only [Act.put, List.setIfInBounds_toArray, List.set_cons_zero, List.set_cons_succ])
          subst vq1 vq3 vq4 vq5 vq6 vq7 vq8 vq9 vq10 vq11
          have B_r0 := Bx_r0
          clear Bx_r0
          have B_r1 := Bx_r1
          clear Bx_r1
          have Q_or0 := Lib.hid or0.feet
          have Q_or1 := Lib.hid or1.feet
          have Q_or2 := Lib.hid or2.feet
          have G_all : Only [bx_r0, bx_r1] wc wc := Only.refl _ _
          refine wpAnyH_ready (rs := [12]) (by kernel_rfl) (by simp) ?_
          refine AllReadyH.cons (o := { dst := none, op := _, type := _, pos := _, after := _, guard := _ }) rfl (fun K hK => ?_) ?_
          refine step_st B_r0 (by simp [Region.wanted]) _ _ _ (by rfl) (by rfl) (by rfl) (by kernel_rfl) (by rfl) (by simp [Value.oneCell']) ?_
          intro wS12 B_r0' G
          replace B_r0 := B_r0'; clear B_r0'
          replace B_p0 := B_p0.only G (by first | (simp; done) | (simp; omega))
          replace B_p1 := B_p1.only G (by first | (simp; done) | (simp; omega))
          replace B_r1 := B_r1.only G (by first | (simp; done) | (simp; omega))
          replace or0 := or0.only G (fun k hk hk' => by simp at hk'; exact N_r0_0 k hk hk')
          replace or1 := or1.only G (fun k hk hk' => by simp at hk'; exact N_r1_0 k hk hk')
          replace or2 := or2.only G (fun k hk hk' => by simp at hk'; exact N_r2_0 k hk hk')
          replace G_all := G_all.trans (G.more (F' := [bx_r0, bx_r1]) (by simp))
          clear G
          refine hK.out _ _ ?_ (fun hHeld => ?_)
          · exact ⟨B_p0, B_p1⟩
          clear hK K
          (try simp only [Act.put])
          refine wpAnyH_ready (rs := [13]) (by kernel_rfl) (by simp) ?_
          refine AllReadyH.cons (o := { dst := none, op := _, type := _, pos := _, after := _, guard := _ }) rfl (fun K hK => ?_) ?_
          refine step_st B_r1 (by simp [Region.wanted]) _ _ _ (by rfl) (by rfl) (by rfl) (by kernel_rfl) (by rfl) (by simp [Value.oneCell']) ?_
          intro wS13 B_r1' G
          replace B_r1 := B_r1'; clear B_r1'
          replace B_p0 := B_p0.only G (by first | (simp; done) | (simp; omega))
          replace B_p1 := B_p1.only G (by first | (simp; done) | (simp; omega))
          replace B_r0 := B_r0.only G (by first | (simp; done) | (simp; omega))
          replace or0 := or0.only G (fun k hk hk' => by simp at hk'; exact N_r0_1 k hk hk')
          replace or1 := or1.only G (fun k hk hk' => by simp at hk'; exact N_r1_1 k hk hk')
          replace or2 := or2.only G (fun k hk hk' => by simp at hk'; exact N_r2_1 k hk hk')
          replace G_all := G_all.trans (G.more (F' := [bx_r0, bx_r1]) (by simp))
          clear G
          refine hK.out _ _ ?_ (fun hHeld => ?_)
          · exact ⟨B_p0, B_p1⟩
          clear hK K
          (try simp only [Act.put])
          refine wpAnyH_take (i := 14) (oi := { dst := some 8, op := _, type := _, pos := _, after := _, guard := _ }) (v := ?v14_4) rfl (by kernel_rfl) (by kernel_rfl) (by kernel_rfl) (fun _ _ _ h => h) (Or.inl ⟨by rfl, ?hy14_4⟩) hHeld ?rest14_4
          case hy14_4 => (intro w _; first | (go_simp; done) | (go_simp; with_reducible rfl) | (with_reducible rfl))
          (try simp only [Act.put, List.setIfInBounds_toArray, List.set_cons_zero, List.set_cons_succ])
          refine wpAnyH_take (i := 15) (oi := { dst := some 9, op := _, type := _, pos := _, after := _, guard := _ }) (v := ?v15_5) rfl (by kernel_rfl) (by kernel_rfl) (by kernel_rfl) (fun _ _ _ h => h) (Or.inl ⟨by rfl, ?hy15_5⟩) hHeld ?rest15_5
          case hy15_5 => (intro w _; first | (go_simp; done) | (go_simp; with_reducible rfl) | (with_reducible rfl))
          (try simp only [Act.put, List.setIfInBounds_toArray, List.set_cons_zero, List.set_cons_succ])
          refine wpAnyH_done (by kernel_rfl) ?_ _
          refine NoPanic.normal ?_
          rotate_left 1
          exact AllReadyH.nil
          exact AllReadyH.nil
          have U2 := U.trans (G_all.below U.size (by intro q hq; simp at hq; omega))
          have SG := G_all.size
          try go_wp2_with fail
          go_meet
          exact ⟨r0, F_r0, r1, F_r1, r2, rn2, rc2, F_r2, bx_r0, bx_r1, rfl, rfl, rfl, rfl, or0, or1, or2, fun k hk => ⟨or0.feet k hk, N_r0_0 k hk, N_r0_1 k hk⟩, fun k hk => ⟨or1.feet k hk, N_r1_0 k hk, N_r1_1 k hk⟩, fun k hk => ⟨or2.feet k hk, N_r2_0 k hk, N_r2_1 k hk⟩, dj_r0_r1, dj_r0_r2, dj_r1_r2, B_r0, B_r1, ⟨by omega, by omega⟩, ⟨by omega, by omega⟩, hne_r0_1, U2⟩
      obtain ⟨r0, F_r0, r1, F_r1, r2, rn2, rc2, F_r2, bx_r0, bx_r1, rfl, rfl, rfl, rfl, or0, or1, or2, Q_or0, Q_or1, Q_or2, dj_r0_r1, dj_r0_r2, dj_r1_r2, B_r0, B_r1, hb_r0, hb_r1, hne_r0_1, u_all⟩ := hcut
      generalize wc = w4' at *
      replace B_p0 := B_p0.below u_all
      replace B_p1 := B_p1.below u_all
      have V_w4' := V_w3'.trans (u_all.mono (V_w3').size)
      have S_w4' := u_all.size
      clear u_all V_w3'
      replace Q_or0 := Lib.hid Q_or0
      replace Q_or1 := Lib.hid Q_or1
      replace Q_or2 := Lib.hid Q_or2
      have e_p0_0 := B_p0.a11_0
      have e_p0_1 := B_p0.a11_1
      have e_p0_2 := B_p0.a11_2
      have e_p0_3 := B_p0.a11_3
      have e_p0_4 := B_p0.a11_4
      have e_p0_5 := B_p0.a11_5
      have e_p0_6 := B_p0.a11_6
      have e_p0_7 := B_p0.a11_7
      have e_p0_8 := B_p0.a11_8
      have e_p0_9 := B_p0.a11_9
      have e_p0_10 := B_p0.a11_10
      go_wp2_with fail
      clear e_p0_0 e_p0_1 e_p0_2 e_p0_3 e_p0_4 e_p0_5 e_p0_6 e_p0_7 e_p0_8 e_p0_9 e_p0_10
      refine (toPlayer_o a0 p0 _ (z0.below V_w4') ht0).mono ?_
      rintro e w5' ⟨x0, F_x0, rfl, ox0, u_w5'⟩
      replace B_p0 := B_p0.below u_w5'
      replace B_p1 := B_p1.below u_w5'
      replace B_r0 := B_r0.below u_w5'
      replace B_r1 := B_r1.below u_w5'
      replace or0 := or0.below u_w5'
      replace or1 := or1.below u_w5'
      replace or2 := or2.below u_w5'
      have V_w5' := V_w4'.trans (u_w5'.mono (V_w4').size)
      have S_w5' := u_w5'.size
      clear u_w5' V_w4'
      have Q_ox0 := Lib.hid ox0.feet
      have e_p1_0 := B_p1.a11_0
      have e_p1_1 := B_p1.a11_1
      have e_p1_2 := B_p1.a11_2
      have e_p1_3 := B_p1.a11_3
      have e_p1_4 := B_p1.a11_4
      have e_p1_5 := B_p1.a11_5
      have e_p1_6 := B_p1.a11_6
      have e_p1_7 := B_p1.a11_7
      have e_p1_8 := B_p1.a11_8
      have e_p1_9 := B_p1.a11_9
      have e_p1_10 := B_p1.a11_10
      have B_p1_0 := B_p1.alloc (.cells #[.int .i64 a0.P, .int .i64 a0.party, .int .i64 a0.input, .int .i64 a0.mask, .int .i64 a0.delta, .slice x0.sa x0.sn x0.sc, .slice x0.ka x0.kn x0.kc, .int .i64 a0.step, .slice x0.ha x0.hn x0.hc, .int .i64 a0.status, .int .i64 a0.out] 31)
      have e_p1_0_0 := B_p1_0.a11_0
      have e_p1_1_0 := B_p1_0.a11_1
      have e_p1_2_0 := B_p1_0.a11_2
      have e_p1_3_0 := B_p1_0.a11_3
      have e_p1_4_0 := B_p1_0.a11_4
      have e_p1_5_0 := B_p1_0.a11_5
      have e_p1_6_0 := B_p1_0.a11_6
      have e_p1_7_0 := B_p1_0.a11_7
      have e_p1_8_0 := B_p1_0.a11_8
      have e_p1_9_0 := B_p1_0.a11_9
      have e_p1_10_0 := B_p1_0.a11_10
      go_wp2_with fail
      clear e_p1_0 e_p1_1 e_p1_2 e_p1_3 e_p1_4 e_p1_5 e_p1_6 e_p1_7 e_p1_8 e_p1_9 e_p1_10 B_p1_0 e_p1_0_0 e_p1_1_0 e_p1_2_0 e_p1_3_0 e_p1_4_0 e_p1_5_0 e_p1_6_0 e_p1_7_0 e_p1_8_0 e_p1_9_0 e_p1_10_0
      refine Exists.elim (Blk.new_ w5' (b := w5'.heap.size) rfl 31 #[.int .i64 a0.P, .int .i64 a0.party, .int .i64 a0.input, .int .i64 a0.mask, .int .i64 a0.delta, .slice x0.sa x0.sn x0.sc, .slice x0.ka x0.kn x0.kc, .int .i64 a0.step, .slice x0.ha x0.hn x0.hc, .int .i64 a0.status, .int .i64 a0.out]) (fun w6' q => ?_)
      rw [q.1]; have B_x0 := q.2.1; have s_w6' := q.2.2.1; have u_w6' := q.2.2.2; clear q
      replace B_p0 := B_p0.below u_w6'
      replace B_p1 := B_p1.below u_w6'
      replace B_r0 := B_r0.below u_w6'
      replace B_r1 := B_r1.below u_w6'
      replace or0 := or0.below u_w6'
      replace or1 := or1.below u_w6'
      replace or2 := or2.below u_w6'
      replace ox0 := ox0.below u_w6'
      have V_w6' := V_w5'.trans (u_w6'.mono (V_w5').size)
      have S_w6' : w5'.heap.size + 1 ≤ w6'.heap.size := Nat.le_of_eq s_w6'.symm
      clear u_w6' s_w6' V_w5'
      refine (toPlayer_o a1 p1 _ (z1.below V_w6') ht1).mono ?_
      rintro e w7' ⟨x1, F_x1, rfl, ox1, u_w7'⟩
      replace B_p0 := B_p0.below u_w7'
      replace B_p1 := B_p1.below u_w7'
      replace B_r0 := B_r0.below u_w7'
      replace B_r1 := B_r1.below u_w7'
      replace B_x0 := B_x0.below u_w7'
      replace or0 := or0.below u_w7'
      replace or1 := or1.below u_w7'
      replace or2 := or2.below u_w7'
      replace ox0 := ox0.below u_w7'
      have V_w7' := V_w6'.trans (u_w7'.mono (V_w6').size)
      have S_w7' := u_w7'.size
      clear u_w7' V_w6'
      have Q_ox1 := Lib.hid ox1.feet
      have e_x0_0 := B_x0.a11_0
      have e_x0_1 := B_x0.a11_1
      have e_x0_2 := B_x0.a11_2
      have e_x0_3 := B_x0.a11_3
      have e_x0_4 := B_x0.a11_4
      have e_x0_5 := B_x0.a11_5
      have e_x0_6 := B_x0.a11_6
      have e_x0_7 := B_x0.a11_7
      have e_x0_8 := B_x0.a11_8
      have e_x0_9 := B_x0.a11_9
      have e_x0_10 := B_x0.a11_10
      have B_x0_0 := B_x0.alloc (.cells #[.int .i64 a1.P, .int .i64 a1.party, .int .i64 a1.input, .int .i64 a1.mask, .int .i64 a1.delta, .slice x1.sa x1.sn x1.sc, .slice x1.ka x1.kn x1.kc, .int .i64 a1.step, .slice x1.ha x1.hn x1.hc, .int .i64 a1.status, .int .i64 a1.out] 31)
      have e_x0_0_0 := B_x0_0.a11_0
      have e_x0_1_0 := B_x0_0.a11_1
      have e_x0_2_0 := B_x0_0.a11_2
      have e_x0_3_0 := B_x0_0.a11_3
      have e_x0_4_0 := B_x0_0.a11_4
      have e_x0_5_0 := B_x0_0.a11_5
      have e_x0_6_0 := B_x0_0.a11_6
      have e_x0_7_0 := B_x0_0.a11_7
      have e_x0_8_0 := B_x0_0.a11_8
      have e_x0_9_0 := B_x0_0.a11_9
      have e_x0_10_0 := B_x0_0.a11_10
      go_wp2_with fail
      clear e_x0_0 e_x0_1 e_x0_2 e_x0_3 e_x0_4 e_x0_5 e_x0_6 e_x0_7 e_x0_8 e_x0_9 e_x0_10 B_x0_0 e_x0_0_0 e_x0_1_0 e_x0_2_0 e_x0_3_0 e_x0_4_0 e_x0_5_0 e_x0_6_0 e_x0_7_0 e_x0_8_0 e_x0_9_0 e_x0_10_0
      refine Exists.elim (Blk.new_ w7' (b := w7'.heap.size) rfl 31 #[.int .i64 a1.P, .int .i64 a1.party, .int .i64 a1.input, .int .i64 a1.mask, .int .i64 a1.delta, .slice x1.sa x1.sn x1.sc, .slice x1.ka x1.kn x1.kc, .int .i64 a1.step, .slice x1.ha x1.hn x1.hc, .int .i64 a1.status, .int .i64 a1.out]) (fun w8' q => ?_)
      rw [q.1]; have B_x1 := q.2.1; have s_w8' := q.2.2.1; have u_w8' := q.2.2.2; clear q
      replace B_p0 := B_p0.below u_w8'
      replace B_p1 := B_p1.below u_w8'
      replace B_r0 := B_r0.below u_w8'
      replace B_r1 := B_r1.below u_w8'
      replace B_x0 := B_x0.below u_w8'
      replace or0 := or0.below u_w8'
      replace or1 := or1.below u_w8'
      replace or2 := or2.below u_w8'
      replace ox0 := ox0.below u_w8'
      replace ox1 := ox1.below u_w8'
      have V_w8' := V_w7'.trans (u_w8'.mono (V_w7').size)
      have S_w8' : w7'.heap.size + 1 ≤ w8'.heap.size := Nat.le_of_eq s_w8'.symm
      clear u_w8' s_w8' V_w7'
      refine (CI.out _ _ _ ox0.rd ox1.rd (LX.out.below V_w8')).mono ?_
      rintro e w9' ⟨g0, F_g0, g1, F_g1, g2, gn2, gc2, F_g2, rfl, og0, og1, og2, dj_g0_g1, dj_g0_g2, dj_g1_g2, u_w9'⟩
      replace B_p0 := B_p0.below u_w9'
      replace B_p1 := B_p1.below u_w9'
      replace B_r0 := B_r0.below u_w9'
      replace B_r1 := B_r1.below u_w9'
      replace B_x0 := B_x0.below u_w9'
      replace B_x1 := B_x1.below u_w9'
      replace or0 := or0.below u_w9'
      replace or1 := or1.below u_w9'
      replace or2 := or2.below u_w9'
      replace ox0 := ox0.below u_w9'
      replace ox1 := ox1.below u_w9'
      have V_w9' := V_w8'.trans (u_w9'.mono (V_w8').size)
      have S_w9' := u_w9'.size
      clear u_w9' V_w8'
      have Q_og0 := Lib.hid og0.feet
      have Q_og1 := Lib.hid og1.feet
      have Q_og2 := Lib.hid og2.feet
      have e_r0_0 := B_r0.a11_0
      have e_r0_1 := B_r0.a11_1
      have e_r0_2 := B_r0.a11_2
      have e_r0_3 := B_r0.a11_3
      have e_r0_4 := B_r0.a11_4
      have e_r0_5 := B_r0.a11_5
      have e_r0_6 := B_r0.a11_6
      have e_r0_7 := B_r0.a11_7
      have e_r0_8 := B_r0.a11_8
      have e_r0_9 := B_r0.a11_9
      have e_r0_10 := B_r0.a11_10
      have B_r0_0 := B_r0.alloc (.cells #[.int .i64 d0_0.P, .int .i64 d0_0.party, .int .i64 d0_0.input, .int .i64 d0_0.mask, .int .i64 d0_0.delta, .slice g0.sa g0.sn g0.sc, .slice g0.ka g0.kn g0.kc, .int .i64 d0_0.step, .slice g0.ha g0.hn g0.hc, .int .i64 d0_0.status, .int .i64 d0_0.out] 31)
      have e_r0_0_0 := B_r0_0.a11_0
      have e_r0_1_0 := B_r0_0.a11_1
      have e_r0_2_0 := B_r0_0.a11_2
      have e_r0_3_0 := B_r0_0.a11_3
      have e_r0_4_0 := B_r0_0.a11_4
      have e_r0_5_0 := B_r0_0.a11_5
      have e_r0_6_0 := B_r0_0.a11_6
      have e_r0_7_0 := B_r0_0.a11_7
      have e_r0_8_0 := B_r0_0.a11_8
      have e_r0_9_0 := B_r0_0.a11_9
      have e_r0_10_0 := B_r0_0.a11_10
      have B_r0_1 := B_r0_0.alloc (.cells #[.int .i64 d1_0.P, .int .i64 d1_0.party, .int .i64 d1_0.input, .int .i64 d1_0.mask, .int .i64 d1_0.delta, .slice g1.sa g1.sn g1.sc, .slice g1.ka g1.kn g1.kc, .int .i64 d1_0.step, .slice g1.ha g1.hn g1.hc, .int .i64 d1_0.status, .int .i64 d1_0.out] 31)
      have e_r0_0_1 := B_r0_1.a11_0
      have e_r0_1_1 := B_r0_1.a11_1
      have e_r0_2_1 := B_r0_1.a11_2
      have e_r0_3_1 := B_r0_1.a11_3
      have e_r0_4_1 := B_r0_1.a11_4
      have e_r0_5_1 := B_r0_1.a11_5
      have e_r0_6_1 := B_r0_1.a11_6
      have e_r0_7_1 := B_r0_1.a11_7
      have e_r0_8_1 := B_r0_1.a11_8
      have e_r0_9_1 := B_r0_1.a11_9
      have e_r0_10_1 := B_r0_1.a11_10
      go_wp2_with fail
      clear e_r0_0 e_r0_1 e_r0_2 e_r0_3 e_r0_4 e_r0_5 e_r0_6 e_r0_7 e_r0_8 e_r0_9 e_r0_10 B_r0_0 e_r0_0_0 e_r0_1_0 e_r0_2_0 e_r0_3_0 e_r0_4_0 e_r0_5_0 e_r0_6_0 e_r0_7_0 e_r0_8_0 e_r0_9_0 e_r0_10_0 B_r0_1 e_r0_0_1 e_r0_1_1 e_r0_2_1 e_r0_3_1 e_r0_4_1 e_r0_5_1 e_r0_6_1 e_r0_7_1 e_r0_8_1 e_r0_9_1 e_r0_10_1
      refine Exists.elim (Blk.new_ w9' (b := w9'.heap.size) rfl 31 #[.int .i64 d0_0.P, .int .i64 d0_0.party, .int .i64 d0_0.input, .int .i64 d0_0.mask, .int .i64 d0_0.delta, .slice g0.sa g0.sn g0.sc, .slice g0.ka g0.kn g0.kc, .int .i64 d0_0.step, .slice g0.ha g0.hn g0.hc, .int .i64 d0_0.status, .int .i64 d0_0.out]) (fun w10_a0' q => ?_)
      rw [q.1]; have B_g0 := q.2.1; have s_w10_a0' := q.2.2.1; have u_w10_a0' := q.2.2.2; clear q
      refine Exists.elim (Blk.new_ w10_a0' (b := w9'.heap.size + 1) s_w10_a0' 31 #[.int .i64 d1_0.P, .int .i64 d1_0.party, .int .i64 d1_0.input, .int .i64 d1_0.mask, .int .i64 d1_0.delta, .slice g1.sa g1.sn g1.sc, .slice g1.ka g1.kn g1.kc, .int .i64 d1_0.step, .slice g1.ha g1.hn g1.hc, .int .i64 d1_0.status, .int .i64 d1_0.out]) (fun w10' q => ?_)
      rw [q.1]; have B_g1 := q.2.1; have s_w10' := q.2.2.1; have u_w10' := q.2.2.2; clear q
      replace B_g0 := (B_g0.below u_w10')
      have U := (u_w10_a0'.trans (u_w10'.mono u_w10_a0'.size))
      replace B_p0 := B_p0.below U
      replace B_p1 := B_p1.below U
      replace B_r0 := B_r0.below U
      replace B_r1 := B_r1.below U
      replace B_x0 := B_x0.below U
      replace B_x1 := B_x1.below U
      replace or0 := or0.below U
      replace or1 := or1.below U
      replace or2 := or2.below U
      replace ox0 := ox0.below U
      replace ox1 := ox1.below U
      replace og0 := og0.below U
      replace og1 := og1.below U
      replace og2 := og2.below U
      have V_w10' := V_w9'.trans (U.mono (V_w9').size)
      have S_w10' : w9'.heap.size + 2 ≤ w10'.heap.size := Nat.le_of_eq s_w10'.symm
      clear u_w10_a0' u_w10' s_w10_a0' s_w10' U V_w9'
      refine (eqPlayer_o d0_0 _ _ _ og0.rd or0.rd).mono ?_
      rintro e w11' ⟨rfl, u_w11'⟩
      replace B_p0 := B_p0.below u_w11'
      replace B_p1 := B_p1.below u_w11'
      replace B_r0 := B_r0.below u_w11'
      replace B_r1 := B_r1.below u_w11'
      replace B_x0 := B_x0.below u_w11'
      replace B_x1 := B_x1.below u_w11'
      replace B_g0 := B_g0.below u_w11'
      replace B_g1 := B_g1.below u_w11'
      replace or0 := or0.below u_w11'
      replace or1 := or1.below u_w11'
      replace or2 := or2.below u_w11'
      replace ox0 := ox0.below u_w11'
      replace ox1 := ox1.below u_w11'
      replace og0 := og0.below u_w11'
      replace og1 := og1.below u_w11'
      replace og2 := og2.below u_w11'
      have V_w11' := V_w10'.trans (u_w11'.mono (V_w10').size)
      have S_w11' := u_w11'.size
      clear u_w11' V_w10'
      have e_g1_0 := B_g1.a11_0
      have e_g1_1 := B_g1.a11_1
      have e_g1_2 := B_g1.a11_2
      have e_g1_3 := B_g1.a11_3
      have e_g1_4 := B_g1.a11_4
      have e_g1_5 := B_g1.a11_5
      have e_g1_6 := B_g1.a11_6
      have e_g1_7 := B_g1.a11_7
      have e_g1_8 := B_g1.a11_8
      have e_g1_9 := B_g1.a11_9
      have e_g1_10 := B_g1.a11_10
      have e_r1_0 := B_r1.a11_0
      have e_r1_1 := B_r1.a11_1
      have e_r1_2 := B_r1.a11_2
      have e_r1_3 := B_r1.a11_3
      have e_r1_4 := B_r1.a11_4
      have e_r1_5 := B_r1.a11_5
      have e_r1_6 := B_r1.a11_6
      have e_r1_7 := B_r1.a11_7
      have e_r1_8 := B_r1.a11_8
      have e_r1_9 := B_r1.a11_9
      have e_r1_10 := B_r1.a11_10
      go_wp2_with fail
      clear e_g1_0 e_g1_1 e_g1_2 e_g1_3 e_g1_4 e_g1_5 e_g1_6 e_g1_7 e_g1_8 e_g1_9 e_g1_10 e_r1_0 e_r1_1 e_r1_2 e_r1_3 e_r1_4 e_r1_5 e_r1_6 e_r1_7 e_r1_8 e_r1_9 e_r1_10
      refine (eqPlayer_o d1_0 _ _ _ og1.rd or1.rd).mono ?_
      rintro e w12' ⟨rfl, u_w12'⟩
      replace B_p0 := B_p0.below u_w12'
      replace B_p1 := B_p1.below u_w12'
      replace B_r0 := B_r0.below u_w12'
      replace B_r1 := B_r1.below u_w12'
      replace B_x0 := B_x0.below u_w12'
      replace B_x1 := B_x1.below u_w12'
      replace B_g0 := B_g0.below u_w12'
      replace B_g1 := B_g1.below u_w12'
      replace or0 := or0.below u_w12'
      replace or1 := or1.below u_w12'
      replace or2 := or2.below u_w12'
      replace ox0 := ox0.below u_w12'
      replace ox1 := ox1.below u_w12'
      replace og0 := og0.below u_w12'
      replace og1 := og1.below u_w12'
      replace og2 := og2.below u_w12'
      have V_w12' := V_w11'.trans (u_w12'.mono (V_w11').size)
      have S_w12' := u_w12'.size
      clear u_w12' V_w11'
      go_wp2_with fail
      refine (eqMessageS_o _ _ _ _ _ _ _ _ og2.rd or2.rd).mono ?_
      rintro e w13' ⟨rfl, u_w13'⟩
      replace B_p0 := B_p0.below u_w13'
      replace B_p1 := B_p1.below u_w13'
      replace B_r0 := B_r0.below u_w13'
      replace B_r1 := B_r1.below u_w13'
      replace B_x0 := B_x0.below u_w13'
      replace B_x1 := B_x1.below u_w13'
      replace B_g0 := B_g0.below u_w13'
      replace B_g1 := B_g1.below u_w13'
      replace or0 := or0.below u_w13'
      replace or1 := or1.below u_w13'
      replace or2 := or2.below u_w13'
      replace ox0 := ox0.below u_w13'
      replace ox1 := ox1.below u_w13'
      replace og0 := og0.below u_w13'
      replace og1 := og1.below u_w13'
      replace og2 := og2.below u_w13'
      have V_w13' := V_w12'.trans (u_w13'.mono (V_w12').size)
      have S_w13' := u_w13'.size
      clear u_w13' V_w12'
      go_wp2
      go_region_held3 (fun W => W.cell? ⟨w5'.heap.size, 0, none⟩ = some (.int .i64 a0.P) ∧ W.cell? ⟨w5'.heap.size, 1, none⟩ = some (.int .i64 a0.party) ∧ W.cell? ⟨w5'.heap.size, 2, none⟩ = some (.int .i64 a0.input) ∧ W.cell? ⟨w5'.heap.size, 3, none⟩ = some (.int .i64 a0.mask) ∧ W.cell? ⟨w5'.heap.size, 4, none⟩ = some (.int .i64 a0.delta) ∧ W.cell? ⟨w5'.heap.size, 5, none⟩ = some (.slice x0.sa x0.sn x0.sc) ∧ W.cell? ⟨w5'.heap.size, 6, none⟩ = some (.slice x0.ka x0.kn x0.kc) ∧ W.cell? ⟨w5'.heap.size, 7, none⟩ = some (.int .i64 a0.step) ∧ W.cell? ⟨w5'.heap.size, 8, none⟩ = some (.slice x0.ha x0.hn x0.hc) ∧ W.cell? ⟨w5'.heap.size, 9, none⟩ = some (.int .i64 a0.status) ∧ W.cell? ⟨w5'.heap.size, 10, none⟩ = some (.int .i64 a0.out) ∧ W.cell? ⟨w.heap.size, 0, none⟩ = some (.int .i64 a0.P) ∧ W.cell? ⟨w.heap.size, 1, none⟩ = some (.int .i64 a0.party) ∧ W.cell? ⟨w.heap.size, 2, none⟩ = some (.int .i64 a0.input) ∧ W.cell? ⟨w.heap.size, 3, none⟩ = some (.int .i64 a0.mask) ∧ W.cell? ⟨w.heap.size, 4, none⟩ = some (.int .i64 a0.delta) ∧ W.cell? ⟨w.heap.size, 5, none⟩ = some (.slice p0.sa p0.sn p0.sc) ∧ W.cell? ⟨w.heap.size, 6, none⟩ = some (.slice p0.ka p0.kn p0.kc) ∧ W.cell? ⟨w.heap.size, 7, none⟩ = some (.int .i64 a0.step) ∧ W.cell? ⟨w.heap.size, 8, none⟩ = some (.slice p0.ha p0.hn p0.hc) ∧ W.cell? ⟨w.heap.size, 9, none⟩ = some (.int .i64 a0.status) ∧ W.cell? ⟨w.heap.size, 10, none⟩ = some (.int .i64 a0.out))
        (first | (have Bu := (B_x0.drew.below tu).below tv; have Bv := (B_p0.drew.below tu).below tv; exact ⟨Bu.a11_0, Bu.a11_1, Bu.a11_2, Bu.a11_3, Bu.a11_4, Bu.a11_5, Bu.a11_6, Bu.a11_7, Bu.a11_8, Bu.a11_9, Bu.a11_10, Bv.a11_0, Bv.a11_1, Bv.a11_2, Bv.a11_3, Bv.a11_4, Bv.a11_5, Bv.a11_6, Bv.a11_7, Bv.a11_8, Bv.a11_9, Bv.a11_10⟩) | (have Bu := B_x0.drew.below tu; have Bv := B_p0.drew.below tu; exact ⟨Bu.a11_0, Bu.a11_1, Bu.a11_2, Bu.a11_3, Bu.a11_4, Bu.a11_5, Bu.a11_6, Bu.a11_7, Bu.a11_8, Bu.a11_9, Bu.a11_10, Bv.a11_0, Bv.a11_1, Bv.a11_2, Bv.a11_3, Bv.a11_4, Bv.a11_5, Bv.a11_6, Bv.a11_7, Bv.a11_8, Bv.a11_9, Bv.a11_10⟩) | (have Bu := B_x0.drew; have Bv := B_p0.drew; exact ⟨Bu.a11_0, Bu.a11_1, Bu.a11_2, Bu.a11_3, Bu.a11_4, Bu.a11_5, Bu.a11_6, Bu.a11_7, Bu.a11_8, Bu.a11_9, Bu.a11_10, Bv.a11_0, Bv.a11_1, Bv.a11_2, Bv.a11_3, Bv.a11_4, Bv.a11_5, Bv.a11_6, Bv.a11_7, Bv.a11_8, Bv.a11_9, Bv.a11_10⟩))
        (first | (go_at_call 15; refine (toPlayer_o a0 p0 _ (z0.below V_w13'.drew) ht0).mono ?_; rintro e wt ⟨t0, F_t0, rfl, ot0, tu⟩) | (go_at_call 17; refine (eqPlayer_o a0 _ _ _ (ox0.drew.below tu).rd ot0.rd).mono ?_; rintro e wq ⟨rfl, tv⟩))
      have u_w14' : Below w13'.heap.size w13' wq := (Below.refl _ _).drew.trans (tu.trans (tv.mono tu.size))
      clear tu tv ot0
      replace B_p0 := B_p0.below u_w14'
      replace B_p1 := B_p1.below u_w14'
      replace B_r0 := B_r0.below u_w14'
      replace B_r1 := B_r1.below u_w14'
      replace B_x0 := B_x0.below u_w14'
      replace B_x1 := B_x1.below u_w14'
      replace B_g0 := B_g0.below u_w14'
      replace B_g1 := B_g1.below u_w14'
      replace or0 := or0.below u_w14'
      replace or1 := or1.below u_w14'
      replace or2 := or2.below u_w14'
      replace ox0 := ox0.below u_w14'
      replace ox1 := ox1.below u_w14'
      replace og0 := og0.below u_w14'
      replace og1 := og1.below u_w14'
      replace og2 := og2.below u_w14'
      have V_wq := V_w13'.trans (u_w14'.mono (V_w13').size)
      have S_wq := u_w14'.size
      clear u_w14' V_w13'
      generalize wq = w14' at *
      have V_w14' := V_wq
      clear V_wq
      have S_w14' := S_wq
      clear S_wq
      go_wp2
      go_region_held3 (fun W => W.cell? ⟨w7'.heap.size, 0, none⟩ = some (.int .i64 a1.P) ∧ W.cell? ⟨w7'.heap.size, 1, none⟩ = some (.int .i64 a1.party) ∧ W.cell? ⟨w7'.heap.size, 2, none⟩ = some (.int .i64 a1.input) ∧ W.cell? ⟨w7'.heap.size, 3, none⟩ = some (.int .i64 a1.mask) ∧ W.cell? ⟨w7'.heap.size, 4, none⟩ = some (.int .i64 a1.delta) ∧ W.cell? ⟨w7'.heap.size, 5, none⟩ = some (.slice x1.sa x1.sn x1.sc) ∧ W.cell? ⟨w7'.heap.size, 6, none⟩ = some (.slice x1.ka x1.kn x1.kc) ∧ W.cell? ⟨w7'.heap.size, 7, none⟩ = some (.int .i64 a1.step) ∧ W.cell? ⟨w7'.heap.size, 8, none⟩ = some (.slice x1.ha x1.hn x1.hc) ∧ W.cell? ⟨w7'.heap.size, 9, none⟩ = some (.int .i64 a1.status) ∧ W.cell? ⟨w7'.heap.size, 10, none⟩ = some (.int .i64 a1.out) ∧ W.cell? ⟨w.heap.size + 1, 0, none⟩ = some (.int .i64 a1.P) ∧ W.cell? ⟨w.heap.size + 1, 1, none⟩ = some (.int .i64 a1.party) ∧ W.cell? ⟨w.heap.size + 1, 2, none⟩ = some (.int .i64 a1.input) ∧ W.cell? ⟨w.heap.size + 1, 3, none⟩ = some (.int .i64 a1.mask) ∧ W.cell? ⟨w.heap.size + 1, 4, none⟩ = some (.int .i64 a1.delta) ∧ W.cell? ⟨w.heap.size + 1, 5, none⟩ = some (.slice p1.sa p1.sn p1.sc) ∧ W.cell? ⟨w.heap.size + 1, 6, none⟩ = some (.slice p1.ka p1.kn p1.kc) ∧ W.cell? ⟨w.heap.size + 1, 7, none⟩ = some (.int .i64 a1.step) ∧ W.cell? ⟨w.heap.size + 1, 8, none⟩ = some (.slice p1.ha p1.hn p1.hc) ∧ W.cell? ⟨w.heap.size + 1, 9, none⟩ = some (.int .i64 a1.status) ∧ W.cell? ⟨w.heap.size + 1, 10, none⟩ = some (.int .i64 a1.out))
        (first | (have Bu := (B_x1.drew.below tu).below tv; have Bv := (B_p1.drew.below tu).below tv; exact ⟨Bu.a11_0, Bu.a11_1, Bu.a11_2, Bu.a11_3, Bu.a11_4, Bu.a11_5, Bu.a11_6, Bu.a11_7, Bu.a11_8, Bu.a11_9, Bu.a11_10, Bv.a11_0, Bv.a11_1, Bv.a11_2, Bv.a11_3, Bv.a11_4, Bv.a11_5, Bv.a11_6, Bv.a11_7, Bv.a11_8, Bv.a11_9, Bv.a11_10⟩) | (have Bu := B_x1.drew.below tu; have Bv := B_p1.drew.below tu; exact ⟨Bu.a11_0, Bu.a11_1, Bu.a11_2, Bu.a11_3, Bu.a11_4, Bu.a11_5, Bu.a11_6, Bu.a11_7, Bu.a11_8, Bu.a11_9, Bu.a11_10, Bv.a11_0, Bv.a11_1, Bv.a11_2, Bv.a11_3, Bv.a11_4, Bv.a11_5, Bv.a11_6, Bv.a11_7, Bv.a11_8, Bv.a11_9, Bv.a11_10⟩) | (have Bu := B_x1.drew; have Bv := B_p1.drew; exact ⟨Bu.a11_0, Bu.a11_1, Bu.a11_2, Bu.a11_3, Bu.a11_4, Bu.a11_5, Bu.a11_6, Bu.a11_7, Bu.a11_8, Bu.a11_9, Bu.a11_10, Bv.a11_0, Bv.a11_1, Bv.a11_2, Bv.a11_3, Bv.a11_4, Bv.a11_5, Bv.a11_6, Bv.a11_7, Bv.a11_8, Bv.a11_9, Bv.a11_10⟩))
        (first | (go_at_call 15; refine (toPlayer_o a1 p1 _ (z1.below V_w14'.drew) ht1).mono ?_; rintro e wt ⟨t1, F_t1, rfl, ot1, tu⟩) | (go_at_call 17; refine (eqPlayer_o a1 _ _ _ (ox1.drew.below tu).rd ot1.rd).mono ?_; rintro e wq ⟨rfl, tv⟩))
      have u_w15' : Below w14'.heap.size w14' wq := (Below.refl _ _).drew.trans (tu.trans (tv.mono tu.size))
      clear tu tv ot1
      replace B_p0 := B_p0.below u_w15'
      replace B_p1 := B_p1.below u_w15'
      replace B_r0 := B_r0.below u_w15'
      replace B_r1 := B_r1.below u_w15'
      replace B_x0 := B_x0.below u_w15'
      replace B_x1 := B_x1.below u_w15'
      replace B_g0 := B_g0.below u_w15'
      replace B_g1 := B_g1.below u_w15'
      replace or0 := or0.below u_w15'
      replace or1 := or1.below u_w15'
      replace or2 := or2.below u_w15'
      replace ox0 := ox0.below u_w15'
      replace ox1 := ox1.below u_w15'
      replace og0 := og0.below u_w15'
      replace og1 := og1.below u_w15'
      replace og2 := og2.below u_w15'
      have V_wq := V_w14'.trans (u_w15'.mono (V_w14').size)
      have S_wq := u_w15'.size
      clear u_w15' V_w14'
      generalize wq = w15' at *
      have V_w15' := V_wq
      clear V_wq
      have S_w15' := S_wq
      clear S_wq
      have e_x0_0 := B_x0.a11_0
      have e_x0_1 := B_x0.a11_1
      have e_x0_2 := B_x0.a11_2
      have e_x0_3 := B_x0.a11_3
      have e_x0_4 := B_x0.a11_4
      have e_x0_5 := B_x0.a11_5
      have e_x0_6 := B_x0.a11_6
      have e_x0_7 := B_x0.a11_7
      have e_x0_8 := B_x0.a11_8
      have e_x0_9 := B_x0.a11_9
      have e_x0_10 := B_x0.a11_10
      go_wp2_with fail
      clear e_x0_0 e_x0_1 e_x0_2 e_x0_3 e_x0_4 e_x0_5 e_x0_6 e_x0_7 e_x0_8 e_x0_9 e_x0_10
      refine (markPlayer_o _ _ _ _ _ _ _ _ _ ox0 (by omega) (by omega)).mono ?_
      rintro e w16' ⟨ms_ox0, mk_ox0, mh_ox0, rfl, ox0, U_ox0, T_ox0, G⟩
      replace U_ox0 := Lib.hid U_ox0
      have hm_ox0 : cntP ms_ox0 mk_ox0 mh_ox0 ≤ 10000000 := by omega
      clear T_ox0
      replace or0 := or0.only G (fun k hk hk' => by have := Q_or0.out k hk; have := Q_ox0.out k hk'; omega)
      replace or1 := or1.only G (fun k hk hk' => by have := Q_or1.out k hk; have := Q_ox0.out k hk'; omega)
      replace or2 := or2.only G (fun k hk hk' => by have := Q_or2.out k hk; have := Q_ox0.out k hk'; omega)
      replace ox1 := ox1.only G (fun k hk hk' => by have := Q_ox1.out k hk; have := Q_ox0.out k hk'; omega)
      replace og0 := og0.only G (fun k hk hk' => by have := Q_og0.out k hk; have := Q_ox0.out k hk'; omega)
      replace og1 := og1.only G (fun k hk hk' => by have := Q_og1.out k hk; have := Q_ox0.out k hk'; omega)
      replace og2 := og2.only G (fun k hk hk' => by have := Q_og2.out k hk; have := Q_ox0.out k hk'; omega)
      replace B_p0 := B_p0.only G (fun hm => by have := Q_ox0.out _ hm; omega)
      replace B_p1 := B_p1.only G (fun hm => by have := Q_ox0.out _ hm; omega)
      replace B_r0 := B_r0.only G (fun hm => by have := Q_ox0.out _ hm; omega)
      replace B_r1 := B_r1.only G (fun hm => by have := Q_ox0.out _ hm; omega)
      replace B_x0 := B_x0.only G (fun hm => by have := Q_ox0.out _ hm; omega)
      replace B_x1 := B_x1.only G (fun hm => by have := Q_ox0.out _ hm; omega)
      replace B_g0 := B_g0.only G (fun hm => by have := Q_ox0.out _ hm; omega)
      replace B_g1 := B_g1.only G (fun hm => by have := Q_ox0.out _ hm; omega)
      have V_w16' := V_w15'.trans (G.below V_w15'.size (fun k hm => by have := V_w15'.size; have := Q_ox0.out k hm; omega))
      have S_w16' := G.size
      clear G V_w15'
      have e_x1_0 := B_x1.a11_0
      have e_x1_1 := B_x1.a11_1
      have e_x1_2 := B_x1.a11_2
      have e_x1_3 := B_x1.a11_3
      have e_x1_4 := B_x1.a11_4
      have e_x1_5 := B_x1.a11_5
      have e_x1_6 := B_x1.a11_6
      have e_x1_7 := B_x1.a11_7
      have e_x1_8 := B_x1.a11_8
      have e_x1_9 := B_x1.a11_9
      have e_x1_10 := B_x1.a11_10
      go_wp2_with fail
      clear e_x1_0 e_x1_1 e_x1_2 e_x1_3 e_x1_4 e_x1_5 e_x1_6 e_x1_7 e_x1_8 e_x1_9 e_x1_10
      refine (markPlayer_o _ _ _ _ _ _ _ _ _ ox1 (by omega) (by omega)).mono ?_
      rintro e w17' ⟨ms_ox1, mk_ox1, mh_ox1, rfl, ox1, U_ox1, T_ox1, G⟩
      replace U_ox1 := Lib.hid U_ox1
      have hm_ox1 : cntP ms_ox1 mk_ox1 mh_ox1 ≤ 10000000 := by omega
      clear T_ox1
      replace or0 := or0.only G (fun k hk hk' => by have := Q_or0.out k hk; have := Q_ox1.out k hk'; omega)
      replace or1 := or1.only G (fun k hk hk' => by have := Q_or1.out k hk; have := Q_ox1.out k hk'; omega)
      replace or2 := or2.only G (fun k hk hk' => by have := Q_or2.out k hk; have := Q_ox1.out k hk'; omega)
      replace ox0 := ox0.only G (fun k hk hk' => by have := Q_ox0.out k hk; have := Q_ox1.out k hk'; omega)
      replace og0 := og0.only G (fun k hk hk' => by have := Q_og0.out k hk; have := Q_ox1.out k hk'; omega)
      replace og1 := og1.only G (fun k hk hk' => by have := Q_og1.out k hk; have := Q_ox1.out k hk'; omega)
      replace og2 := og2.only G (fun k hk hk' => by have := Q_og2.out k hk; have := Q_ox1.out k hk'; omega)
      replace B_p0 := B_p0.only G (fun hm => by have := Q_ox1.out _ hm; omega)
      replace B_p1 := B_p1.only G (fun hm => by have := Q_ox1.out _ hm; omega)
      replace B_r0 := B_r0.only G (fun hm => by have := Q_ox1.out _ hm; omega)
      replace B_r1 := B_r1.only G (fun hm => by have := Q_ox1.out _ hm; omega)
      replace B_x0 := B_x0.only G (fun hm => by have := Q_ox1.out _ hm; omega)
      replace B_x1 := B_x1.only G (fun hm => by have := Q_ox1.out _ hm; omega)
      replace B_g0 := B_g0.only G (fun hm => by have := Q_ox1.out _ hm; omega)
      replace B_g1 := B_g1.only G (fun hm => by have := Q_ox1.out _ hm; omega)
      have V_w17' := V_w16'.trans (G.below V_w16'.size (fun k hm => by have := V_w16'.size; have := Q_ox1.out k hm; omega))
      have S_w17' := G.size
      clear G V_w16'
      have e_g0_0 := B_g0.a11_0
      have e_g0_1 := B_g0.a11_1
      have e_g0_2 := B_g0.a11_2
      have e_g0_3 := B_g0.a11_3
      have e_g0_4 := B_g0.a11_4
      have e_g0_5 := B_g0.a11_5
      have e_g0_6 := B_g0.a11_6
      have e_g0_7 := B_g0.a11_7
      have e_g0_8 := B_g0.a11_8
      have e_g0_9 := B_g0.a11_9
      have e_g0_10 := B_g0.a11_10
      have e_r0_0 := B_r0.a11_0
      have e_r0_1 := B_r0.a11_1
      have e_r0_2 := B_r0.a11_2
      have e_r0_3 := B_r0.a11_3
      have e_r0_4 := B_r0.a11_4
      have e_r0_5 := B_r0.a11_5
      have e_r0_6 := B_r0.a11_6
      have e_r0_7 := B_r0.a11_7
      have e_r0_8 := B_r0.a11_8
      have e_r0_9 := B_r0.a11_9
      have e_r0_10 := B_r0.a11_10
      go_wp2_with fail
      clear e_g0_0 e_g0_1 e_g0_2 e_g0_3 e_g0_4 e_g0_5 e_g0_6 e_g0_7 e_g0_8 e_g0_9 e_g0_10 e_r0_0 e_r0_1 e_r0_2 e_r0_3 e_r0_4 e_r0_5 e_r0_6 e_r0_7 e_r0_8 e_r0_9 e_r0_10
      refine (eqPlayer_o d0_0 _ _ _ og0.rd or0.rd).mono ?_
      rintro e w18' ⟨rfl, u_w18'⟩
      replace B_p0 := B_p0.below u_w18'
      replace B_p1 := B_p1.below u_w18'
      replace B_r0 := B_r0.below u_w18'
      replace B_r1 := B_r1.below u_w18'
      replace B_x0 := B_x0.below u_w18'
      replace B_x1 := B_x1.below u_w18'
      replace B_g0 := B_g0.below u_w18'
      replace B_g1 := B_g1.below u_w18'
      replace or0 := or0.below u_w18'
      replace or1 := or1.below u_w18'
      replace or2 := or2.below u_w18'
      replace ox0 := ox0.below u_w18'
      replace ox1 := ox1.below u_w18'
      replace og0 := og0.below u_w18'
      replace og1 := og1.below u_w18'
      replace og2 := og2.below u_w18'
      have V_w18' := V_w17'.trans (u_w18'.mono (V_w17').size)
      have S_w18' := u_w18'.size
      clear u_w18' V_w17'
      have e_g1_0 := B_g1.a11_0
      have e_g1_1 := B_g1.a11_1
      have e_g1_2 := B_g1.a11_2
      have e_g1_3 := B_g1.a11_3
      have e_g1_4 := B_g1.a11_4
      have e_g1_5 := B_g1.a11_5
      have e_g1_6 := B_g1.a11_6
      have e_g1_7 := B_g1.a11_7
      have e_g1_8 := B_g1.a11_8
      have e_g1_9 := B_g1.a11_9
      have e_g1_10 := B_g1.a11_10
      have e_r1_0 := B_r1.a11_0
      have e_r1_1 := B_r1.a11_1
      have e_r1_2 := B_r1.a11_2
      have e_r1_3 := B_r1.a11_3
      have e_r1_4 := B_r1.a11_4
      have e_r1_5 := B_r1.a11_5
      have e_r1_6 := B_r1.a11_6
      have e_r1_7 := B_r1.a11_7
      have e_r1_8 := B_r1.a11_8
      have e_r1_9 := B_r1.a11_9
      have e_r1_10 := B_r1.a11_10
      go_wp2_with fail
      clear e_g1_0 e_g1_1 e_g1_2 e_g1_3 e_g1_4 e_g1_5 e_g1_6 e_g1_7 e_g1_8 e_g1_9 e_g1_10 e_r1_0 e_r1_1 e_r1_2 e_r1_3 e_r1_4 e_r1_5 e_r1_6 e_r1_7 e_r1_8 e_r1_9 e_r1_10
      refine (eqPlayer_o d1_0 _ _ _ og1.rd or1.rd).mono ?_
      rintro e w19' ⟨rfl, u_w19'⟩
      replace B_p0 := B_p0.below u_w19'
      replace B_p1 := B_p1.below u_w19'
      replace B_r0 := B_r0.below u_w19'
      replace B_r1 := B_r1.below u_w19'
      replace B_x0 := B_x0.below u_w19'
      replace B_x1 := B_x1.below u_w19'
      replace B_g0 := B_g0.below u_w19'
      replace B_g1 := B_g1.below u_w19'
      replace or0 := or0.below u_w19'
      replace or1 := or1.below u_w19'
      replace or2 := or2.below u_w19'
      replace ox0 := ox0.below u_w19'
      replace ox1 := ox1.below u_w19'
      replace og0 := og0.below u_w19'
      replace og1 := og1.below u_w19'
      replace og2 := og2.below u_w19'
      have V_w19' := V_w18'.trans (u_w19'.mono (V_w18').size)
      have S_w19' := u_w19'.size
      clear u_w19' V_w18'
      go_wp2_with fail
      refine (eqMessageS_o _ _ _ _ _ _ _ _ og2.rd or2.rd).mono ?_
      rintro e w20' ⟨rfl, u_w20'⟩
      replace B_p0 := B_p0.below u_w20'
      replace B_p1 := B_p1.below u_w20'
      replace B_r0 := B_r0.below u_w20'
      replace B_r1 := B_r1.below u_w20'
      replace B_x0 := B_x0.below u_w20'
      replace B_x1 := B_x1.below u_w20'
      replace B_g0 := B_g0.below u_w20'
      replace B_g1 := B_g1.below u_w20'
      replace or0 := or0.below u_w20'
      replace or1 := or1.below u_w20'
      replace or2 := or2.below u_w20'
      replace ox0 := ox0.below u_w20'
      replace ox1 := ox1.below u_w20'
      replace og0 := og0.below u_w20'
      replace og1 := og1.below u_w20'
      replace og2 := og2.below u_w20'
      have V_w20' := V_w19'.trans (u_w20'.mono (V_w19').size)
      have S_w20' := u_w20'.size
      clear u_w20' V_w19'
      clear ox0
      clear ox1
      clear B_x0
      clear B_x1
      have e_g0_0 := B_g0.a11_0
      have e_g0_1 := B_g0.a11_1
      have e_g0_2 := B_g0.a11_2
      have e_g0_3 := B_g0.a11_3
      have e_g0_4 := B_g0.a11_4
      have e_g0_5 := B_g0.a11_5
      have e_g0_6 := B_g0.a11_6
      have e_g0_7 := B_g0.a11_7
      have e_g0_8 := B_g0.a11_8
      have e_g0_9 := B_g0.a11_9
      have e_g0_10 := B_g0.a11_10
      go_wp2_with fail
      clear e_g0_0 e_g0_1 e_g0_2 e_g0_3 e_g0_4 e_g0_5 e_g0_6 e_g0_7 e_g0_8 e_g0_9 e_g0_10
      refine (markPlayer_o _ _ _ _ _ _ _ _ _ og0 (by omega) (by omega)).mono ?_
      rintro e w21' ⟨ms_og0, mk_og0, mh_og0, rfl, og0, U_og0, T_og0, G⟩
      replace U_og0 := Lib.hid U_og0
      have hm_og0 : cntP ms_og0 mk_og0 mh_og0 ≤ 10000000 := by omega
      clear T_og0
      replace or0 := or0.only G (fun k hk hk' => by have := Q_or0.out k hk; have := Q_og0.out k hk'; omega)
      replace or1 := or1.only G (fun k hk hk' => by have := Q_or1.out k hk; have := Q_og0.out k hk'; omega)
      replace or2 := or2.only G (fun k hk hk' => by have := Q_or2.out k hk; have := Q_og0.out k hk'; omega)
      replace og1 := og1.only G dj_g0_g1.symm
      replace og2 := og2.only G dj_g0_g2.symm
      replace B_p0 := B_p0.only G (fun hm => by have := Q_og0.out _ hm; omega)
      replace B_p1 := B_p1.only G (fun hm => by have := Q_og0.out _ hm; omega)
      replace B_r0 := B_r0.only G (fun hm => by have := Q_og0.out _ hm; omega)
      replace B_r1 := B_r1.only G (fun hm => by have := Q_og0.out _ hm; omega)
      replace B_g0 := B_g0.only G (fun hm => by have := Q_og0.out _ hm; omega)
      replace B_g1 := B_g1.only G (fun hm => by have := Q_og0.out _ hm; omega)
      have V_w21' := V_w20'.trans (G.below V_w20'.size (fun k hm => by have := V_w20'.size; have := Q_og0.out k hm; omega))
      have S_w21' := G.size
      clear G V_w20'
      have e_g1_0 := B_g1.a11_0
      have e_g1_1 := B_g1.a11_1
      have e_g1_2 := B_g1.a11_2
      have e_g1_3 := B_g1.a11_3
      have e_g1_4 := B_g1.a11_4
      have e_g1_5 := B_g1.a11_5
      have e_g1_6 := B_g1.a11_6
      have e_g1_7 := B_g1.a11_7
      have e_g1_8 := B_g1.a11_8
      have e_g1_9 := B_g1.a11_9
      have e_g1_10 := B_g1.a11_10
      go_wp2_with fail
      clear e_g1_0 e_g1_1 e_g1_2 e_g1_3 e_g1_4 e_g1_5 e_g1_6 e_g1_7 e_g1_8 e_g1_9 e_g1_10
      refine (markPlayer_o _ _ _ _ _ _ _ _ _ og1 (by omega) (by omega)).mono ?_
      rintro e w22' ⟨ms_og1, mk_og1, mh_og1, rfl, og1, U_og1, T_og1, G⟩
      replace U_og1 := Lib.hid U_og1
      have hm_og1 : cntP ms_og1 mk_og1 mh_og1 ≤ 10000000 := by omega
      clear T_og1
      replace or0 := or0.only G (fun k hk hk' => by have := Q_or0.out k hk; have := Q_og1.out k hk'; omega)
      replace or1 := or1.only G (fun k hk hk' => by have := Q_or1.out k hk; have := Q_og1.out k hk'; omega)
      replace or2 := or2.only G (fun k hk hk' => by have := Q_or2.out k hk; have := Q_og1.out k hk'; omega)
      replace og0 := og0.only G dj_g0_g1
      replace og2 := og2.only G dj_g1_g2.symm
      replace B_p0 := B_p0.only G (fun hm => by have := Q_og1.out _ hm; omega)
      replace B_p1 := B_p1.only G (fun hm => by have := Q_og1.out _ hm; omega)
      replace B_r0 := B_r0.only G (fun hm => by have := Q_og1.out _ hm; omega)
      replace B_r1 := B_r1.only G (fun hm => by have := Q_og1.out _ hm; omega)
      replace B_g0 := B_g0.only G (fun hm => by have := Q_og1.out _ hm; omega)
      replace B_g1 := B_g1.only G (fun hm => by have := Q_og1.out _ hm; omega)
      have V_w22' := V_w21'.trans (G.below V_w21'.size (fun k hm => by have := V_w21'.size; have := Q_og1.out k hm; omega))
      have S_w22' := G.size
      clear G V_w21'
      go_wp2_with fail
      refine (markMessageS_o _ _ _ _ _ _ _ _ og2 (by omega) (by omega)).mono ?_
      rintro e w23' ⟨md_og2, rfl, og2, U_og2, T_og2, G⟩
      replace U_og2 := Lib.hid U_og2
      have hm_og2 : cntM md_og2 ≤ 10000000 := by omega
      clear T_og2
      replace or0 := or0.only G (fun k hk hk' => by have := Q_or0.out k hk; have := Q_og2.out k hk'; omega)
      replace or1 := or1.only G (fun k hk hk' => by have := Q_or1.out k hk; have := Q_og2.out k hk'; omega)
      replace or2 := or2.only G (fun k hk hk' => by have := Q_or2.out k hk; have := Q_og2.out k hk'; omega)
      replace og0 := og0.only G dj_g0_g2
      replace og1 := og1.only G dj_g1_g2
      replace B_p0 := B_p0.only G (fun hm => by have := Q_og2.out _ hm; omega)
      replace B_p1 := B_p1.only G (fun hm => by have := Q_og2.out _ hm; omega)
      replace B_r0 := B_r0.only G (fun hm => by have := Q_og2.out _ hm; omega)
      replace B_r1 := B_r1.only G (fun hm => by have := Q_og2.out _ hm; omega)
      replace B_g0 := B_g0.only G (fun hm => by have := Q_og2.out _ hm; omega)
      replace B_g1 := B_g1.only G (fun hm => by have := Q_og2.out _ hm; omega)
      have V_w23' := V_w22'.trans (G.below V_w22'.size (fun k hm => by have := V_w22'.size; have := Q_og2.out k hm; omega))
      have S_w23' := G.size
      clear G V_w22'
      have e_g0_0 := B_g0.a11_0
      have e_g0_1 := B_g0.a11_1
      have e_g0_2 := B_g0.a11_2
      have e_g0_3 := B_g0.a11_3
      have e_g0_4 := B_g0.a11_4
      have e_g0_5 := B_g0.a11_5
      have e_g0_6 := B_g0.a11_6
      have e_g0_7 := B_g0.a11_7
      have e_g0_8 := B_g0.a11_8
      have e_g0_9 := B_g0.a11_9
      have e_g0_10 := B_g0.a11_10
      go_wp2_with fail
      clear e_g0_0 e_g0_1 e_g0_2 e_g0_3 e_g0_4 e_g0_5 e_g0_6 e_g0_7 e_g0_8 e_g0_9 e_g0_10
      refine (heldPlayer_o _ _ _ _ _ _ _ og0.rd U_og0.out (by omega) (by omega)).mono ?_
      rintro e w24' ⟨rfl, u_w24'⟩
      replace B_p0 := B_p0.below u_w24'
      replace B_p1 := B_p1.below u_w24'
      replace B_r0 := B_r0.below u_w24'
      replace B_r1 := B_r1.below u_w24'
      replace B_g0 := B_g0.below u_w24'
      replace B_g1 := B_g1.below u_w24'
      replace or0 := or0.below u_w24'
      replace or1 := or1.below u_w24'
      replace or2 := or2.below u_w24'
      replace og0 := og0.below u_w24'
      replace og1 := og1.below u_w24'
      replace og2 := og2.below u_w24'
      have V_w24' := V_w23'.trans (u_w24'.mono (V_w23').size)
      have S_w24' := u_w24'.size
      clear u_w24' V_w23'
      have e_g1_0 := B_g1.a11_0
      have e_g1_1 := B_g1.a11_1
      have e_g1_2 := B_g1.a11_2
      have e_g1_3 := B_g1.a11_3
      have e_g1_4 := B_g1.a11_4
      have e_g1_5 := B_g1.a11_5
      have e_g1_6 := B_g1.a11_6
      have e_g1_7 := B_g1.a11_7
      have e_g1_8 := B_g1.a11_8
      have e_g1_9 := B_g1.a11_9
      have e_g1_10 := B_g1.a11_10
      go_wp2_with fail
      clear e_g1_0 e_g1_1 e_g1_2 e_g1_3 e_g1_4 e_g1_5 e_g1_6 e_g1_7 e_g1_8 e_g1_9 e_g1_10
      refine (heldPlayer_o _ _ _ _ _ _ _ og1.rd U_og1.out (by omega) (by omega)).mono ?_
      rintro e w25' ⟨rfl, u_w25'⟩
      replace B_p0 := B_p0.below u_w25'
      replace B_p1 := B_p1.below u_w25'
      replace B_r0 := B_r0.below u_w25'
      replace B_r1 := B_r1.below u_w25'
      replace B_g0 := B_g0.below u_w25'
      replace B_g1 := B_g1.below u_w25'
      replace or0 := or0.below u_w25'
      replace or1 := or1.below u_w25'
      replace or2 := or2.below u_w25'
      replace og0 := og0.below u_w25'
      replace og1 := og1.below u_w25'
      replace og2 := og2.below u_w25'
      have V_w25' := V_w24'.trans (u_w25'.mono (V_w24').size)
      have S_w25' := u_w25'.size
      clear u_w25' V_w24'
      go_wp2_with fail
      refine (heldMessageS_o _ _ _ _ _ _ og2.rd U_og2.out (by omega) (by omega)).mono ?_
      rintro e w26' ⟨rfl, u_w26'⟩
      replace B_p0 := B_p0.below u_w26'
      replace B_p1 := B_p1.below u_w26'
      replace B_r0 := B_r0.below u_w26'
      replace B_r1 := B_r1.below u_w26'
      replace B_g0 := B_g0.below u_w26'
      replace B_g1 := B_g1.below u_w26'
      replace or0 := or0.below u_w26'
      replace or1 := or1.below u_w26'
      replace or2 := or2.below u_w26'
      replace og0 := og0.below u_w26'
      replace og1 := og1.below u_w26'
      replace og2 := og2.below u_w26'
      have V_w26' := V_w25'.trans (u_w26'.mono (V_w25').size)
      have S_w26' := u_w26'.size
      clear u_w26' V_w25'
      go_upto_region 39 with fail
      go_cut [19, 20, 21, 22] (fun s19 s20 s21 s22 wx => ∃ (h0 : PlX) (F_h0 : List Nat) (h1 : PlX) (F_h1 : List Nat) (h2 : Option Addr) (hn2 hc2 : Nat) (F_h2 : List Nat) (bx_h0 : Nat) (bx_h1 : Nat), s19 = .pointer (some ⟨bx_h0, 0, none⟩) ∧ s20 = .pointer (some ⟨bx_h1, 0, none⟩) ∧ s21 = .slice h2 hn2 hc2 ∧ s22 = .bool d3_0 ∧ PlO wx w26'.heap.size h0 d0_0.shares d0_0.keys d0_0.heard F_h0 ∧ PlO wx w26'.heap.size h1 d1_0.shares d1_0.keys d1_0.heard F_h1 ∧ MsO wx w26'.heap.size h2 hn2 hc2 d2_0 F_h2 ∧ (∀ k ∈ F_h0, (w26'.heap.size ≤ k ∧ k < wx.heap.size) ∧ k ≠ bx_h0 ∧ k ≠ bx_h1) ∧ (∀ k ∈ F_h1, (w26'.heap.size ≤ k ∧ k < wx.heap.size) ∧ k ≠ bx_h0 ∧ k ≠ bx_h1) ∧ (∀ k ∈ F_h2, (w26'.heap.size ≤ k ∧ k < wx.heap.size) ∧ k ≠ bx_h0 ∧ k ≠ bx_h1) ∧ Disj (F_h0) (F_h1) ∧ Disj (F_h0) (F_h2) ∧ Disj (F_h1) (F_h2) ∧ Blk wx bx_h0 31 #[.int .i64 d0_0.P, .int .i64 d0_0.party, .int .i64 d0_0.input, .int .i64 d0_0.mask, .int .i64 d0_0.delta, .slice h0.sa h0.sn h0.sc, .slice h0.ka h0.kn h0.kc, .int .i64 d0_0.step, .slice h0.ha h0.hn h0.hc, .int .i64 d0_0.status, .int .i64 d0_0.out] ∧ Blk wx bx_h1 31 #[.int .i64 d1_0.P, .int .i64 d1_0.party, .int .i64 d1_0.input, .int .i64 d1_0.mask, .int .i64 d1_0.delta, .slice h1.sa h1.sn h1.sc, .slice h1.ka h1.kn h1.kc, .int .i64 d1_0.step, .slice h1.ha h1.hn h1.hc, .int .i64 d1_0.status, .int .i64 d1_0.out] ∧ (w26'.heap.size ≤ bx_h0 ∧ bx_h0 < wx.heap.size) ∧ (w26'.heap.size ≤ bx_h1 ∧ bx_h1 < wx.heap.size) ∧ bx_h0 ≠ bx_h1 ∧ Below w26'.heap.size w26' wx)
      case first =>
        replace B_p0 := Blk.drew B_p0
        replace B_p1 := Blk.drew B_p1
        replace B_p0 := Blk.drew B_p0
        replace B_p1 := Blk.drew B_p1
        refine wp_region_noPanic ?_
        refine wp_region_held_drew (S := (fun W => Blk W (w.heap.size) 26 #[.int .i64 a0.P, .int .i64 a0.party, .int .i64 a0.input, .int .i64 a0.mask, .int .i64 a0.delta, .slice p0.sa p0.sn p0.sc, .slice p0.ka p0.kn p0.kc, .int .i64 a0.step, .slice p0.ha p0.hn p0.hc, .int .i64 a0.status, .int .i64 a0.out] ∧ Blk W (w.heap.size + 1) 26 #[.int .i64 a1.P, .int .i64 a1.party, .int .i64 a1.input, .int .i64 a1.mask, .int .i64 a1.delta, .slice p1.sa p1.sn p1.sc, .slice p1.ka p1.kn p1.kc, .int .i64 a1.step, .slice p1.ha p1.hn p1.hc, .int .i64 a1.status, .int .i64 a1.out])) (by kernel_rfl) ?hS6 (fun hHeld => ?go6)
        case hS6 => exact ⟨B_p0, B_p1⟩
        refine wpAnyH_take (i := 0) (oi := { dst := some 145, op := _, type := _, pos := _, after := _, guard := _ }) (v := ?v0_7) rfl (by kernel_rfl) (by kernel_rfl) (by kernel_rfl) (fun _ _ _ h => h) (Or.inl ⟨by rfl, ?hy0_7⟩) hHeld ?rest0_7
        case hy0_7 => (intro w hSw; obtain ⟨qS0, qS1⟩ := hSw; have cS0_0 := qS0.cell 0; have cS0_1 := qS0.cell 1; have cS0_2 := qS0.cell 2; have cS0_3 := qS0.cell 3; have cS0_4 := qS0.cell 4; have cS0_5 := qS0.cell 5; have cS0_6 := qS0.cell 6; have cS0_7 := qS0.cell 7; have cS0_8 := qS0.cell 8; have cS0_9 := qS0.cell 9; have cS0_10 := qS0.cell 10; have cS1_0 := qS1.cell 0; have cS1_1 := qS1.cell 1; have cS1_2 := qS1.cell 2; have cS1_3 := qS1.cell 3; have cS1_4 := qS1.cell 4; have cS1_5 := qS1.cell 5; have cS1_6 := qS1.cell 6; have cS1_7 := qS1.cell 7; have cS1_8 := qS1.cell 8; have cS1_9 := qS1.cell 9; have cS1_10 := qS1.cell 10; first | (go_simp; done) | (go_simp; with_reducible rfl) | (with_reducible rfl))
        (try simp only [Act.put, List.setIfInBounds_toArray, List.set_cons_zero, List.set_cons_succ])
        refine wpAnyH_take (i := 2) (oi := { dst := some 147, op := _, type := _, pos := _, after := _, guard := _ }) (v := ?v2_8) rfl (by kernel_rfl) (by kernel_rfl) (by kernel_rfl) (fun _ _ _ h => h) (Or.inl ⟨by rfl, ?hy2_8⟩) hHeld ?rest2_8
        case hy2_8 => (intro w hSw; obtain ⟨qS0, qS1⟩ := hSw; have cS0_0 := qS0.cell 0; have cS0_1 := qS0.cell 1; have cS0_2 := qS0.cell 2; have cS0_3 := qS0.cell 3; have cS0_4 := qS0.cell 4; have cS0_5 := qS0.cell 5; have cS0_6 := qS0.cell 6; have cS0_7 := qS0.cell 7; have cS0_8 := qS0.cell 8; have cS0_9 := qS0.cell 9; have cS0_10 := qS0.cell 10; have cS1_0 := qS1.cell 0; have cS1_1 := qS1.cell 1; have cS1_2 := qS1.cell 2; have cS1_3 := qS1.cell 3; have cS1_4 := qS1.cell 4; have cS1_5 := qS1.cell 5; have cS1_6 := qS1.cell 6; have cS1_7 := qS1.cell 7; have cS1_8 := qS1.cell 8; have cS1_9 := qS1.cell 9; have cS1_10 := qS1.cell 10; first | (go_simp; done) | (go_simp; with_reducible rfl) | (with_reducible rfl))
        (try simp only [Act.put, List.setIfInBounds_toArray, List.set_cons_zero, List.set_cons_succ])
        rotate_left 1
        refine wpAnyH_invG [1, 3, 4, 10, 11] #[true, false, true, false, false, false, false, false, false, false, false, false, false, false, false, false] #[true, true, true, true, true, true, true, true, true, true, true, true, false, false, false, false] 14 4 (fun (a0J : Act) (lJ : Array Bool) (aJ : Act) (wJ : World) => ∃ dJ : InvRunPlayersHD, lJ = #[true, dJ.l1, true, dJ.l3, dJ.l4, dJ.l4, dJ.l4, dJ.l4, dJ.l4, dJ.l4, dJ.l10, dJ.l11, false, false, false, false] ∧ aJ = ((((((((((a0J.put (some 146) dJ.v1).put (some 148) dJ.v3).put (some 149) dJ.v4).put (some 19) dJ.v10).put (some 20) dJ.v11).put (some 144) dJ.v5).put (some 150) dJ.v6).put (some 151) dJ.v7).put (some 152) dJ.v8).put (some 153) dJ.v9) ∧ InvRunPlayersHF w26' a0 a1 d0_0 d1_0 d2_0 d3_0 dJ.l1 dJ.l3 dJ.l4 dJ.l10 dJ.l11 dJ.v1 dJ.v3 dJ.v4 dJ.v10 dJ.v11 dJ.v5 dJ.v6 dJ.v7 dJ.v8 dJ.v9 dJ.x0 dJ.F_x0 dJ.x1 dJ.F_x1 dJ.h0 dJ.F_h0 dJ.h1 dJ.F_h1 dJ.h2 dJ.hn2 dJ.hc2 dJ.F_h2 dJ.bx_h0 dJ.bx_h1 wJ) (fun T => #[true, T.getD 0 true, true, T.getD 1 true, T.getD 2 true, T.getD 2 true, T.getD 2 true, T.getD 2 true, T.getD 2 true, T.getD 2 true, T.getD 3 true, T.getD 4 true, false, false, false, false]) (by kernel_rfl) (by kernel_rfl) (by kernel_rfl) (by kernel_rfl) (by kernel_rfl) ?hJ hHeld ?hi ?hs ?he
        case hJ => rintro lJ aJ wJ ⟨dJ, rfl, _⟩; exact ⟨[dJ.l1, dJ.l3, dJ.l4, dJ.l10, dJ.l11], rfl, rfl⟩
        case hi => exact ⟨⟨false, false, false, false, false, _, _, _, _, _, _, _, _, _, _, zeroX, [], zeroX, [], zeroX, [], zeroX, [], none, 0, 0, [], 0, 0⟩, rfl, (Act.selfs (Act.selfs (Act.selfs (Act.selfs (Act.selfs (Act.selfs (Act.selfs (Act.selfs (Act.selfs (Act.selfs rfl 146) 148) 149) 19) 20) 144) 150) 151) 152) 153), ⟨(Below.refl _ _).drew, fun q0 => (by cases q0), fun q0 => (by cases q0), fun q0 => (by cases q0), fun q0 => (by cases q0), fun q0 => (by cases q0), fun q0 => (by cases q0), fun q0 => (by cases q0), fun q0 => (by cases q0), fun q0 => (by cases q0), fun q0 => (by cases q0), fun q0 => (by cases q0), fun q0 => (by cases q0), fun q0 => (by cases q0), fun q0 => (by cases q0), fun q0 => (by cases q0), fun q0 => (by cases q0), fun q0 => (by cases q0), fun q0 => (by cases q0), fun q0 => (by cases q0), fun q0 => (by cases q0), fun q0 => (by cases q0), fun q0 => (by cases q0), fun q0 q1 => (by cases q0), fun q0 q1 => (by cases q0), fun q0 q1 => (by cases q0), fun q0 => (by cases q0), fun q0 => (by cases q0), fun q0 => (by cases q0), fun q0 q1 => (by cases q0), fun q0 q1 => (by cases q0), fun q0 q1 => (by cases q0), fun q0 q1 => (by cases q0)⟩⟩
        case hs =>
          refine StepsG.cons (o := { dst := some 146, op := _, type := _, pos := _, after := _, guard := _ }) rfl ?_ ?_
          · intro nG lJ aJ wi K IH hS hJ hz0 hd hK
            obtain ⟨dJ, hJ⟩ := hJ
            obtain ⟨e1, hJ⟩ := hJ
            obtain ⟨e2, hF⟩ := hJ
            subst e1
            subst e2
            cases dJ with | mk l1 l3 l4 l10 l11 v1 v3 v4 v10 v11 v5 v6 v7 v8 v9 x0 F_x0 x1 F_x1 h0 F_h0 h1 F_h1 h2 hn2 hc2 F_h2 bx_h0 bx_h1 =>
            replace hF : InvRunPlayersHF w26' a0 a1 d0_0 d1_0 d2_0 d3_0 l1 l3 l4 l10 l11 v1 v3 v4 v10 v11 v5 v6 v7 v8 v9 x0 F_x0 x1 F_x1 h0 F_h0 h1 F_h1 h2 hn2 hc2 F_h2 bx_h0 bx_h1 wi := hF
            have U := hF.U
            have k3_1 := hF.k3_1
            have k4_1 := hF.k4_1
            have k4_3 := hF.k4_3
            have vq1 := hF.vq1
            have ox0 := hF.ox0
            have vq3 := hF.vq3
            have ox1 := hF.ox1
            have vq4 := hF.vq4
            have vq5 := hF.vq5
            have vq6 := hF.vq6
            have vq7 := hF.vq7
            have vq8 := hF.vq8
            have vq9 := hF.vq9
            have oh0 := hF.oh0
            have oh1 := hF.oh1
            have oh2 := hF.oh2
            have dj_h0_h1 := hF.dj_h0_h1
            have dj_h0_h2 := hF.dj_h0_h2
            have dj_h1_h2 := hF.dj_h1_h2
            have vq10 := hF.vq10
            have Bx_h0 := hF.Bx_h0
            have hb_h0 := hF.hb_h0
            have N_h0_0 := hF.N_h0_0
            have N_h1_0 := hF.N_h1_0
            have N_h2_0 := hF.N_h2_0
            have vq11 := hF.vq11
            have Bx_h1 := hF.Bx_h1
            have hb_h1 := hF.hb_h1
            have N_h0_1 := hF.N_h0_1
            have N_h1_1 := hF.N_h1_1
            have N_h2_1 := hF.N_h2_1
            have hne_h0_1 := hF.hne_h0_1
            clear hF
            have e0 : l1 = false := hz0; subst e0
            clear hz0 hd
            have B_p0 := hS.1
            have B_p1 := hS.2
            clear hS
            (try simp only [Act.put, List.setIfInBounds_toArray, List.set_cons_zero, List.set_cons_succ])
            replace k3_1 := Lib.hid k3_1
            replace k4_1 := Lib.hid k4_1
            replace k4_3 := Lib.hid k4_3
            replace vq1 := Lib.hid vq1
            replace vq10 := Lib.hid vq10
            replace vq11 := Lib.hid vq11
            replace vq3 := Lib.hid vq3
            replace vq4 := Lib.hid vq4
            replace vq5 := Lib.hid vq5
            replace vq6 := Lib.hid vq6
            replace vq7 := Lib.hid vq7
            replace vq8 := Lib.hid vq8
            replace vq9 := Lib.hid vq9
            go_simp
            refine (toPlayer_o a0 p0 _ (z0.below (V_w26'.trans (U.mono V_w26'.size))) ht0).mono ?_
            rintro e wo ⟨z', F', rfl, n1, u⟩
            replace B_p0 := (B_p0).below u
            replace B_p1 := (B_p1).below u
            refine hK.out _ _ ⟨B_p0, B_p1⟩ ?_
            have hS2 := (⟨B_p0, B_p1⟩ : (fun W => Blk W (w.heap.size) 26 #[.int .i64 a0.P, .int .i64 a0.party, .int .i64 a0.input, .int .i64 a0.mask, .int .i64 a0.delta, .slice p0.sa p0.sn p0.sc, .slice p0.ka p0.kn p0.kc, .int .i64 a0.step, .slice p0.ha p0.hn p0.hc, .int .i64 a0.status, .int .i64 a0.out] ∧ Blk W (w.heap.size + 1) 26 #[.int .i64 a1.P, .int .i64 a1.party, .int .i64 a1.input, .int .i64 a1.mask, .int .i64 a1.delta, .slice p1.sa p1.sn p1.sc, .slice p1.ka p1.kn p1.kc, .int .i64 a1.step, .slice p1.ha p1.hn p1.hc, .int .i64 a1.status, .int .i64 a1.out]) wo)
            clear hK
            try simp only [List.setIfInBounds_toArray, List.set_cons_zero, List.set_cons_succ]
            exact IH.out _ _ _ hS2 ⟨⟨true, l3, l4, l10, l11, .agg #[.int .i64 a0.P, .int .i64 a0.party, .int .i64 a0.input, .int .i64 a0.mask, .int .i64 a0.delta, .slice z'.sa z'.sn z'.sc, .slice z'.ka z'.kn z'.kc, .int .i64 a0.step, .slice z'.ha z'.hn z'.hc, .int .i64 a0.status, .int .i64 a0.out], v3, v4, v10, v11, v5, v6, v7, v8, v9, z', F', x1, F_x1, h0, F_h0, h1, F_h1, h2, hn2, hc2, F_h2, bx_h0, bx_h1⟩, rfl, by kernel_rfl, (show InvRunPlayersHF w26' a0 a1 d0_0 d1_0 d2_0 d3_0 true l3 l4 l10 l11 (.agg #[.int .i64 a0.P, .int .i64 a0.party, .int .i64 a0.input, .int .i64 a0.mask, .int .i64 a0.delta, .slice z'.sa z'.sn z'.sc, .slice z'.ka z'.kn z'.kc, .int .i64 a0.step, .slice z'.ha z'.hn z'.hc, .int .i64 a0.status, .int .i64 a0.out]) v3 v4 v10 v11 v5 v6 v7 v8 v9 z' F' x1 F_x1 h0 F_h0 h1 F_h1 h2 hn2 hc2 F_h2 bx_h0 bx_h1 wo from ⟨((U).trans (u.mono (U).size)), (fun nd3 => (by cases k3_1.out nd3)), (fun nd4 => (by cases k4_1.out nd4)), (fun nd4 => (by cases k4_1.out nd4)), (fun nd1 => rfl), (fun nd1 => n1.lower U.size), (fun nd3 => (by cases k3_1.out nd3)), (fun nd3 => (by cases k3_1.out nd3)), (fun nd4 => (by cases k4_1.out nd4)), (fun nd4 => (by cases k4_1.out nd4)), (fun nd4 => (by cases k4_1.out nd4)), (fun nd4 => (by cases k4_1.out nd4)), (fun nd4 => (by cases k4_1.out nd4)), (fun nd4 => (by cases k4_1.out nd4)), (fun nd4 => (by cases k4_1.out nd4)), (fun nd4 => (by cases k4_1.out nd4)), (fun nd4 => (by cases k4_1.out nd4)), (fun nd4 => (by cases k4_1.out nd4)), (fun nd4 => (by cases k4_1.out nd4)), (fun nd4 => (by cases k4_1.out nd4)), (fun nd10 => (vq10.out nd10)), (fun nd10 => ((Bx_h0 nd10)).below u), (fun nd10 => ⟨((hb_h0 nd10)).1, Nat.lt_of_lt_of_le ((hb_h0 nd10)).2 u.size⟩), (fun nd4 nd10 => (by cases k4_1.out nd4)), (fun nd4 nd10 => (by cases k4_1.out nd4)), (fun nd4 nd10 => (by cases k4_1.out nd4)), (fun nd11 => (vq11.out nd11)), (fun nd11 => ((Bx_h1 nd11)).below u), (fun nd11 => ⟨((hb_h1 nd11)).1, Nat.lt_of_lt_of_le ((hb_h1 nd11)).2 u.size⟩), (fun nd4 nd11 => (by cases k4_1.out nd4)), (fun nd4 nd11 => (by cases k4_1.out nd4)), (fun nd4 nd11 => (by cases k4_1.out nd4)), (fun nd10 nd11 => (hne_h0_1 nd10 nd11))⟩)⟩
          refine StepsG.cons (o := { dst := some 148, op := _, type := _, pos := _, after := _, guard := _ }) rfl ?_ ?_
          · intro nG lJ aJ wi K IH hS hJ hz0 hd hK
            obtain ⟨dJ, hJ⟩ := hJ
            obtain ⟨e1, hJ⟩ := hJ
            obtain ⟨e2, hF⟩ := hJ
            subst e1
            subst e2
            cases dJ with | mk l1 l3 l4 l10 l11 v1 v3 v4 v10 v11 v5 v6 v7 v8 v9 x0 F_x0 x1 F_x1 h0 F_h0 h1 F_h1 h2 hn2 hc2 F_h2 bx_h0 bx_h1 =>
            replace hF : InvRunPlayersHF w26' a0 a1 d0_0 d1_0 d2_0 d3_0 l1 l3 l4 l10 l11 v1 v3 v4 v10 v11 v5 v6 v7 v8 v9 x0 F_x0 x1 F_x1 h0 F_h0 h1 F_h1 h2 hn2 hc2 F_h2 bx_h0 bx_h1 wi := hF
            have U := hF.U
            have k3_1 := hF.k3_1
            have k4_1 := hF.k4_1
            have k4_3 := hF.k4_3
            have vq1 := hF.vq1
            have ox0 := hF.ox0
            have vq3 := hF.vq3
            have ox1 := hF.ox1
            have vq4 := hF.vq4
            have vq5 := hF.vq5
            have vq6 := hF.vq6
            have vq7 := hF.vq7
            have vq8 := hF.vq8
            have vq9 := hF.vq9
            have oh0 := hF.oh0
            have oh1 := hF.oh1
            have oh2 := hF.oh2
            have dj_h0_h1 := hF.dj_h0_h1
            have dj_h0_h2 := hF.dj_h0_h2
            have dj_h1_h2 := hF.dj_h1_h2
            have vq10 := hF.vq10
            have Bx_h0 := hF.Bx_h0
            have hb_h0 := hF.hb_h0
            have N_h0_0 := hF.N_h0_0
            have N_h1_0 := hF.N_h1_0
            have N_h2_0 := hF.N_h2_0
            have vq11 := hF.vq11
            have Bx_h1 := hF.Bx_h1
            have hb_h1 := hF.hb_h1
            have N_h0_1 := hF.N_h0_1
            have N_h1_1 := hF.N_h1_1
            have N_h2_1 := hF.N_h2_1
            have hne_h0_1 := hF.hne_h0_1
            clear hF
            have e0 : l3 = false := hz0; subst e0
            have e1 : l1 = true := hd 1 (by kernel_rfl); subst e1
            clear hz0 hd
            have B_p0 := hS.1
            have B_p1 := hS.2
            clear hS
            (try simp only [Act.put, List.setIfInBounds_toArray, List.set_cons_zero, List.set_cons_succ])
            replace k3_1 := Lib.hid k3_1
            replace k4_1 := Lib.hid k4_1
            replace k4_3 := Lib.hid k4_3
            replace vq1 := Lib.hid vq1
            replace vq10 := Lib.hid vq10
            replace vq11 := Lib.hid vq11
            replace vq3 := Lib.hid vq3
            replace vq4 := Lib.hid vq4
            replace vq5 := Lib.hid vq5
            replace vq6 := Lib.hid vq6
            replace vq7 := Lib.hid vq7
            replace vq8 := Lib.hid vq8
            replace vq9 := Lib.hid vq9
            go_simp
            refine (toPlayer_o a1 p1 _ (z1.below (V_w26'.trans (U.mono V_w26'.size))) ht1).mono ?_
            rintro e wo ⟨z', F', rfl, n1, u⟩
            replace B_p0 := (B_p0).below u
            replace B_p1 := (B_p1).below u
            refine hK.out _ _ ⟨B_p0, B_p1⟩ ?_
            have hS2 := (⟨B_p0, B_p1⟩ : (fun W => Blk W (w.heap.size) 26 #[.int .i64 a0.P, .int .i64 a0.party, .int .i64 a0.input, .int .i64 a0.mask, .int .i64 a0.delta, .slice p0.sa p0.sn p0.sc, .slice p0.ka p0.kn p0.kc, .int .i64 a0.step, .slice p0.ha p0.hn p0.hc, .int .i64 a0.status, .int .i64 a0.out] ∧ Blk W (w.heap.size + 1) 26 #[.int .i64 a1.P, .int .i64 a1.party, .int .i64 a1.input, .int .i64 a1.mask, .int .i64 a1.delta, .slice p1.sa p1.sn p1.sc, .slice p1.ka p1.kn p1.kc, .int .i64 a1.step, .slice p1.ha p1.hn p1.hc, .int .i64 a1.status, .int .i64 a1.out]) wo)
            clear hK
            try simp only [List.setIfInBounds_toArray, List.set_cons_zero, List.set_cons_succ]
            exact IH.out _ _ _ hS2 ⟨⟨true, true, l4, l10, l11, v1, .agg #[.int .i64 a1.P, .int .i64 a1.party, .int .i64 a1.input, .int .i64 a1.mask, .int .i64 a1.delta, .slice z'.sa z'.sn z'.sc, .slice z'.ka z'.kn z'.kc, .int .i64 a1.step, .slice z'.ha z'.hn z'.hc, .int .i64 a1.status, .int .i64 a1.out], v4, v10, v11, v5, v6, v7, v8, v9, x0, F_x0, z', F', h0, F_h0, h1, F_h1, h2, hn2, hc2, F_h2, bx_h0, bx_h1⟩, rfl, by kernel_rfl, (show InvRunPlayersHF w26' a0 a1 d0_0 d1_0 d2_0 d3_0 true true l4 l10 l11 v1 (.agg #[.int .i64 a1.P, .int .i64 a1.party, .int .i64 a1.input, .int .i64 a1.mask, .int .i64 a1.delta, .slice z'.sa z'.sn z'.sc, .slice z'.ka z'.kn z'.kc, .int .i64 a1.step, .slice z'.ha z'.hn z'.hc, .int .i64 a1.status, .int .i64 a1.out]) v4 v10 v11 v5 v6 v7 v8 v9 x0 F_x0 z' F' h0 F_h0 h1 F_h1 h2 hn2 hc2 F_h2 bx_h0 bx_h1 wo from ⟨((U).trans (u.mono (U).size)), (fun nd3 => rfl), (fun nd4 => (by cases k4_3.out nd4)), (fun nd4 => (by cases k4_3.out nd4)), (fun nd1 => (vq1.out nd1)), (fun nd1 => ((ox0 nd1)).below u), (fun nd3 => rfl), (fun nd3 => n1.lower U.size), (fun nd4 => (by cases k4_3.out nd4)), (fun nd4 => (by cases k4_3.out nd4)), (fun nd4 => (by cases k4_3.out nd4)), (fun nd4 => (by cases k4_3.out nd4)), (fun nd4 => (by cases k4_3.out nd4)), (fun nd4 => (by cases k4_3.out nd4)), (fun nd4 => (by cases k4_3.out nd4)), (fun nd4 => (by cases k4_3.out nd4)), (fun nd4 => (by cases k4_3.out nd4)), (fun nd4 => (by cases k4_3.out nd4)), (fun nd4 => (by cases k4_3.out nd4)), (fun nd4 => (by cases k4_3.out nd4)), (fun nd10 => (vq10.out nd10)), (fun nd10 => ((Bx_h0 nd10)).below u), (fun nd10 => ⟨((hb_h0 nd10)).1, Nat.lt_of_lt_of_le ((hb_h0 nd10)).2 u.size⟩), (fun nd4 nd10 => (by cases k4_3.out nd4)), (fun nd4 nd10 => (by cases k4_3.out nd4)), (fun nd4 nd10 => (by cases k4_3.out nd4)), (fun nd11 => (vq11.out nd11)), (fun nd11 => ((Bx_h1 nd11)).below u), (fun nd11 => ⟨((hb_h1 nd11)).1, Nat.lt_of_lt_of_le ((hb_h1 nd11)).2 u.size⟩), (fun nd4 nd11 => (by cases k4_3.out nd4)), (fun nd4 nd11 => (by cases k4_3.out nd4)), (fun nd4 nd11 => (by cases k4_3.out nd4)), (fun nd10 nd11 => (hne_h0_1 nd10 nd11))⟩)⟩
          refine StepsG.cons (o := { dst := some 149, op := _, type := _, pos := _, after := _, guard := _ }) rfl ?_ ?_
          · intro nG lJ aJ wi K IH hS hJ hz0 hd hK
            obtain ⟨dJ, hJ⟩ := hJ
            obtain ⟨e1, hJ⟩ := hJ
            obtain ⟨e2, hF⟩ := hJ
            subst e1
            subst e2
            cases dJ with | mk l1 l3 l4 l10 l11 v1 v3 v4 v10 v11 v5 v6 v7 v8 v9 x0 F_x0 x1 F_x1 h0 F_h0 h1 F_h1 h2 hn2 hc2 F_h2 bx_h0 bx_h1 =>
            replace hF : InvRunPlayersHF w26' a0 a1 d0_0 d1_0 d2_0 d3_0 l1 l3 l4 l10 l11 v1 v3 v4 v10 v11 v5 v6 v7 v8 v9 x0 F_x0 x1 F_x1 h0 F_h0 h1 F_h1 h2 hn2 hc2 F_h2 bx_h0 bx_h1 wi := hF
            have U := hF.U
            have k3_1 := hF.k3_1
            have k4_1 := hF.k4_1
            have k4_3 := hF.k4_3
            have vq1 := hF.vq1
            have ox0 := hF.ox0
            have vq3 := hF.vq3
            have ox1 := hF.ox1
            have vq4 := hF.vq4
            have vq5 := hF.vq5
            have vq6 := hF.vq6
            have vq7 := hF.vq7
            have vq8 := hF.vq8
            have vq9 := hF.vq9
            have oh0 := hF.oh0
            have oh1 := hF.oh1
            have oh2 := hF.oh2
            have dj_h0_h1 := hF.dj_h0_h1
            have dj_h0_h2 := hF.dj_h0_h2
            have dj_h1_h2 := hF.dj_h1_h2
            have vq10 := hF.vq10
            have Bx_h0 := hF.Bx_h0
            have hb_h0 := hF.hb_h0
            have N_h0_0 := hF.N_h0_0
            have N_h1_0 := hF.N_h1_0
            have N_h2_0 := hF.N_h2_0
            have vq11 := hF.vq11
            have Bx_h1 := hF.Bx_h1
            have hb_h1 := hF.hb_h1
            have N_h0_1 := hF.N_h0_1
            have N_h1_1 := hF.N_h1_1
            have N_h2_1 := hF.N_h2_1
            have hne_h0_1 := hF.hne_h0_1
            clear hF
            have e0 : l4 = false := hz0; subst e0
            have e1 : l1 = true := hd 1 (by kernel_rfl); subst e1
            have e3 : l3 = true := hd 3 (by kernel_rfl); subst e3
            clear hz0 hd
            have B_p0 := hS.1
            have B_p1 := hS.2
            clear hS
            (try simp only [Act.put, List.setIfInBounds_toArray, List.set_cons_zero, List.set_cons_succ])
            have g' := vq1 rfl; subst g'
            have g' := vq3 rfl; subst g'
            replace k3_1 := Lib.hid k3_1
            replace k4_1 := Lib.hid k4_1
            replace k4_3 := Lib.hid k4_3
            replace vq1 := Lib.hid vq1
            replace vq10 := Lib.hid vq10
            replace vq11 := Lib.hid vq11
            replace vq3 := Lib.hid vq3
            replace vq4 := Lib.hid vq4
            replace vq5 := Lib.hid vq5
            replace vq6 := Lib.hid vq6
            replace vq7 := Lib.hid vq7
            replace vq8 := Lib.hid vq8
            replace vq9 := Lib.hid vq9
            go_simp
            refine (CI.out _ _ _ (ox0 rfl).rd (ox1 rfl).rd (LX.out.below (V_w26'.trans (U.mono V_w26'.size)))).mono ?_
            rintro e wo ⟨h0', F_h0', h1', F_h1', h2', hn2', hc2', F_h2', rfl, n0, n1, n2, dj_h0_h1', dj_h0_h2', dj_h1_h2', u⟩
            replace B_p0 := (B_p0).below u
            replace B_p1 := (B_p1).below u
            refine hK.out _ _ ⟨B_p0, B_p1⟩ ?_
            have hS2 := (⟨B_p0, B_p1⟩ : (fun W => Blk W (w.heap.size) 26 #[.int .i64 a0.P, .int .i64 a0.party, .int .i64 a0.input, .int .i64 a0.mask, .int .i64 a0.delta, .slice p0.sa p0.sn p0.sc, .slice p0.ka p0.kn p0.kc, .int .i64 a0.step, .slice p0.ha p0.hn p0.hc, .int .i64 a0.status, .int .i64 a0.out] ∧ Blk W (w.heap.size + 1) 26 #[.int .i64 a1.P, .int .i64 a1.party, .int .i64 a1.input, .int .i64 a1.mask, .int .i64 a1.delta, .slice p1.sa p1.sn p1.sc, .slice p1.ka p1.kn p1.kc, .int .i64 a1.step, .slice p1.ha p1.hn p1.hc, .int .i64 a1.status, .int .i64 a1.out]) wo)
            clear hK
            try simp only [List.setIfInBounds_toArray, List.set_cons_zero, List.set_cons_succ]
            refine GoI.take (i := 5) (oi := { dst := some 144, op := _, type := _, pos := _, after := _, guard := _ }) (v := .tuple #[.agg #[.int .i64 d0_0.P, .int .i64 d0_0.party, .int .i64 d0_0.input, .int .i64 d0_0.mask, .int .i64 d0_0.delta, .slice h0'.sa h0'.sn h0'.sc, .slice h0'.ka h0'.kn h0'.kc, .int .i64 d0_0.step, .slice h0'.ha h0'.hn h0'.hc, .int .i64 d0_0.status, .int .i64 d0_0.out], .agg #[.int .i64 d1_0.P, .int .i64 d1_0.party, .int .i64 d1_0.input, .int .i64 d1_0.mask, .int .i64 d1_0.delta, .slice h1'.sa h1'.sn h1'.sc, .slice h1'.ka h1'.kn h1'.kc, .int .i64 d1_0.step, .slice h1'.ha h1'.hn h1'.hc, .int .i64 d1_0.status, .int .i64 d1_0.out], .slice h2' hn2' hc2', .bool d3_0]) rfl (by kernel_rfl) (by cases l10 <;> cases l11 <;> kernel_rfl) (by cases l10 <;> cases l11 <;> kernel_rfl) (fun _ _ _ h => h) (Or.inl ⟨by rfl, by intro w _; first | (go_simp; done) | (go_simp; with_reducible rfl) | (with_reducible rfl)⟩) hS2 ?_
            (try simp only [Act.put, List.setIfInBounds_toArray, List.set_cons_zero, List.set_cons_succ])
            refine GoI.take (i := 6) (oi := { dst := some 150, op := _, type := _, pos := _, after := _, guard := _ }) (v := .agg #[.int .i64 d0_0.P, .int .i64 d0_0.party, .int .i64 d0_0.input, .int .i64 d0_0.mask, .int .i64 d0_0.delta, .slice h0'.sa h0'.sn h0'.sc, .slice h0'.ka h0'.kn h0'.kc, .int .i64 d0_0.step, .slice h0'.ha h0'.hn h0'.hc, .int .i64 d0_0.status, .int .i64 d0_0.out]) rfl (by kernel_rfl) (by cases l10 <;> cases l11 <;> kernel_rfl) (by cases l10 <;> cases l11 <;> kernel_rfl) (fun _ _ _ h => h) (Or.inl ⟨by rfl, by intro w _; first | (go_simp; done) | (go_simp; with_reducible rfl) | (with_reducible rfl)⟩) hS2 ?_
            (try simp only [Act.put, List.setIfInBounds_toArray, List.set_cons_zero, List.set_cons_succ])
            refine GoI.take (i := 7) (oi := { dst := some 151, op := _, type := _, pos := _, after := _, guard := _ }) (v := .agg #[.int .i64 d1_0.P, .int .i64 d1_0.party, .int .i64 d1_0.input, .int .i64 d1_0.mask, .int .i64 d1_0.delta, .slice h1'.sa h1'.sn h1'.sc, .slice h1'.ka h1'.kn h1'.kc, .int .i64 d1_0.step, .slice h1'.ha h1'.hn h1'.hc, .int .i64 d1_0.status, .int .i64 d1_0.out]) rfl (by kernel_rfl) (by cases l10 <;> cases l11 <;> kernel_rfl) (by cases l10 <;> cases l11 <;> kernel_rfl) (fun _ _ _ h => h) (Or.inl ⟨by rfl, by intro w _; first | (go_simp; done) | (go_simp; with_reducible rfl) | (with_reducible rfl)⟩) hS2 ?_
            (try simp only [Act.put, List.setIfInBounds_toArray, List.set_cons_zero, List.set_cons_succ])
            refine GoI.take (i := 8) (oi := { dst := some 152, op := _, type := _, pos := _, after := _, guard := _ }) (v := .slice h2' hn2' hc2') rfl (by kernel_rfl) (by cases l10 <;> cases l11 <;> kernel_rfl) (by cases l10 <;> cases l11 <;> kernel_rfl) (fun _ _ _ h => h) (Or.inl ⟨by rfl, by intro w _; first | (go_simp; done) | (go_simp; with_reducible rfl) | (with_reducible rfl)⟩) hS2 ?_
            (try simp only [Act.put, List.setIfInBounds_toArray, List.set_cons_zero, List.set_cons_succ])
            refine GoI.take (i := 9) (oi := { dst := some 153, op := _, type := _, pos := _, after := _, guard := _ }) (v := .bool d3_0) rfl (by kernel_rfl) (by cases l10 <;> cases l11 <;> kernel_rfl) (by cases l10 <;> cases l11 <;> kernel_rfl) (fun _ _ _ h => h) (Or.inl ⟨by rfl, by intro w _; first | (go_simp; done) | (go_simp; with_reducible rfl) | (with_reducible rfl)⟩) hS2 ?_
            (try simp only [Act.put, List.setIfInBounds_toArray, List.set_cons_zero, List.set_cons_succ])
            exact IH.out _ _ _ hS2 ⟨⟨true, true, true, l10, l11, .agg #[.int .i64 a0.P, .int .i64 a0.party, .int .i64 a0.input, .int .i64 a0.mask, .int .i64 a0.delta, .slice x0.sa x0.sn x0.sc, .slice x0.ka x0.kn x0.kc, .int .i64 a0.step, .slice x0.ha x0.hn x0.hc, .int .i64 a0.status, .int .i64 a0.out], .agg #[.int .i64 a1.P, .int .i64 a1.party, .int .i64 a1.input, .int .i64 a1.mask, .int .i64 a1.delta, .slice x1.sa x1.sn x1.sc, .slice x1.ka x1.kn x1.kc, .int .i64 a1.step, .slice x1.ha x1.hn x1.hc, .int .i64 a1.status, .int .i64 a1.out], .tuple #[.agg #[.int .i64 d0_0.P, .int .i64 d0_0.party, .int .i64 d0_0.input, .int .i64 d0_0.mask, .int .i64 d0_0.delta, .slice h0'.sa h0'.sn h0'.sc, .slice h0'.ka h0'.kn h0'.kc, .int .i64 d0_0.step, .slice h0'.ha h0'.hn h0'.hc, .int .i64 d0_0.status, .int .i64 d0_0.out], .agg #[.int .i64 d1_0.P, .int .i64 d1_0.party, .int .i64 d1_0.input, .int .i64 d1_0.mask, .int .i64 d1_0.delta, .slice h1'.sa h1'.sn h1'.sc, .slice h1'.ka h1'.kn h1'.kc, .int .i64 d1_0.step, .slice h1'.ha h1'.hn h1'.hc, .int .i64 d1_0.status, .int .i64 d1_0.out], .slice h2' hn2' hc2', .bool d3_0], v10, v11, .tuple #[.agg #[.int .i64 d0_0.P, .int .i64 d0_0.party, .int .i64 d0_0.input, .int .i64 d0_0.mask, .int .i64 d0_0.delta, .slice h0'.sa h0'.sn h0'.sc, .slice h0'.ka h0'.kn h0'.kc, .int .i64 d0_0.step, .slice h0'.ha h0'.hn h0'.hc, .int .i64 d0_0.status, .int .i64 d0_0.out], .agg #[.int .i64 d1_0.P, .int .i64 d1_0.party, .int .i64 d1_0.input, .int .i64 d1_0.mask, .int .i64 d1_0.delta, .slice h1'.sa h1'.sn h1'.sc, .slice h1'.ka h1'.kn h1'.kc, .int .i64 d1_0.step, .slice h1'.ha h1'.hn h1'.hc, .int .i64 d1_0.status, .int .i64 d1_0.out], .slice h2' hn2' hc2', .bool d3_0], .agg #[.int .i64 d0_0.P, .int .i64 d0_0.party, .int .i64 d0_0.input, .int .i64 d0_0.mask, .int .i64 d0_0.delta, .slice h0'.sa h0'.sn h0'.sc, .slice h0'.ka h0'.kn h0'.kc, .int .i64 d0_0.step, .slice h0'.ha h0'.hn h0'.hc, .int .i64 d0_0.status, .int .i64 d0_0.out], .agg #[.int .i64 d1_0.P, .int .i64 d1_0.party, .int .i64 d1_0.input, .int .i64 d1_0.mask, .int .i64 d1_0.delta, .slice h1'.sa h1'.sn h1'.sc, .slice h1'.ka h1'.kn h1'.kc, .int .i64 d1_0.step, .slice h1'.ha h1'.hn h1'.hc, .int .i64 d1_0.status, .int .i64 d1_0.out], .slice h2' hn2' hc2', .bool d3_0, x0, F_x0, x1, F_x1, h0', F_h0', h1', F_h1', h2', hn2', hc2', F_h2', bx_h0, bx_h1⟩, rfl, by kernel_rfl, (show InvRunPlayersHF w26' a0 a1 d0_0 d1_0 d2_0 d3_0 true true true l10 l11 (.agg #[.int .i64 a0.P, .int .i64 a0.party, .int .i64 a0.input, .int .i64 a0.mask, .int .i64 a0.delta, .slice x0.sa x0.sn x0.sc, .slice x0.ka x0.kn x0.kc, .int .i64 a0.step, .slice x0.ha x0.hn x0.hc, .int .i64 a0.status, .int .i64 a0.out]) (.agg #[.int .i64 a1.P, .int .i64 a1.party, .int .i64 a1.input, .int .i64 a1.mask, .int .i64 a1.delta, .slice x1.sa x1.sn x1.sc, .slice x1.ka x1.kn x1.kc, .int .i64 a1.step, .slice x1.ha x1.hn x1.hc, .int .i64 a1.status, .int .i64 a1.out]) (.tuple #[.agg #[.int .i64 d0_0.P, .int .i64 d0_0.party, .int .i64 d0_0.input, .int .i64 d0_0.mask, .int .i64 d0_0.delta, .slice h0'.sa h0'.sn h0'.sc, .slice h0'.ka h0'.kn h0'.kc, .int .i64 d0_0.step, .slice h0'.ha h0'.hn h0'.hc, .int .i64 d0_0.status, .int .i64 d0_0.out], .agg #[.int .i64 d1_0.P, .int .i64 d1_0.party, .int .i64 d1_0.input, .int .i64 d1_0.mask, .int .i64 d1_0.delta, .slice h1'.sa h1'.sn h1'.sc, .slice h1'.ka h1'.kn h1'.kc, .int .i64 d1_0.step, .slice h1'.ha h1'.hn h1'.hc, .int .i64 d1_0.status, .int .i64 d1_0.out], .slice h2' hn2' hc2', .bool d3_0]) v10 v11 (.tuple #[.agg #[.int .i64 d0_0.P, .int .i64 d0_0.party, .int .i64 d0_0.input, .int .i64 d0_0.mask, .int .i64 d0_0.delta, .slice h0'.sa h0'.sn h0'.sc, .slice h0'.ka h0'.kn h0'.kc, .int .i64 d0_0.step, .slice h0'.ha h0'.hn h0'.hc, .int .i64 d0_0.status, .int .i64 d0_0.out], .agg #[.int .i64 d1_0.P, .int .i64 d1_0.party, .int .i64 d1_0.input, .int .i64 d1_0.mask, .int .i64 d1_0.delta, .slice h1'.sa h1'.sn h1'.sc, .slice h1'.ka h1'.kn h1'.kc, .int .i64 d1_0.step, .slice h1'.ha h1'.hn h1'.hc, .int .i64 d1_0.status, .int .i64 d1_0.out], .slice h2' hn2' hc2', .bool d3_0]) (.agg #[.int .i64 d0_0.P, .int .i64 d0_0.party, .int .i64 d0_0.input, .int .i64 d0_0.mask, .int .i64 d0_0.delta, .slice h0'.sa h0'.sn h0'.sc, .slice h0'.ka h0'.kn h0'.kc, .int .i64 d0_0.step, .slice h0'.ha h0'.hn h0'.hc, .int .i64 d0_0.status, .int .i64 d0_0.out]) (.agg #[.int .i64 d1_0.P, .int .i64 d1_0.party, .int .i64 d1_0.input, .int .i64 d1_0.mask, .int .i64 d1_0.delta, .slice h1'.sa h1'.sn h1'.sc, .slice h1'.ka h1'.kn h1'.kc, .int .i64 d1_0.step, .slice h1'.ha h1'.hn h1'.hc, .int .i64 d1_0.status, .int .i64 d1_0.out]) (.slice h2' hn2' hc2') (.bool d3_0) x0 F_x0 x1 F_x1 h0' F_h0' h1' F_h1' h2' hn2' hc2' F_h2' bx_h0 bx_h1 wo from ⟨((U).trans (u.mono (U).size)), (fun nd3 => (k3_1.out nd3)), (fun nd4 => rfl), (fun nd4 => rfl), (fun nd1 => (vq1.out nd1)), (fun nd1 => ((ox0 nd1)).below u), (fun nd3 => (vq3.out nd3)), (fun nd3 => ((ox1 nd3)).below u), (fun nd4 => rfl), (fun nd4 => rfl), (fun nd4 => rfl), (fun nd4 => rfl), (fun nd4 => rfl), (fun nd4 => rfl), (fun nd4 => n0.lower U.size), (fun nd4 => n1.lower U.size), (fun nd4 => n2.lower U.size), (fun nd4 => dj_h0_h1'), (fun nd4 => dj_h0_h2'), (fun nd4 => dj_h1_h2'), (fun nd10 => (vq10.out nd10)), (fun nd10 => ((Bx_h0 nd10)).below u), (fun nd10 => ⟨((hb_h0 nd10)).1, Nat.lt_of_lt_of_le ((hb_h0 nd10)).2 u.size⟩), (fun nd4 nd10 => fun k hk => by have := n0.feet k hk; have := (hb_h0 nd10).2; omega), (fun nd4 nd10 => fun k hk => by have := n1.feet k hk; have := (hb_h0 nd10).2; omega), (fun nd4 nd10 => fun k hk => by have := n2.feet k hk; have := (hb_h0 nd10).2; omega), (fun nd11 => (vq11.out nd11)), (fun nd11 => ((Bx_h1 nd11)).below u), (fun nd11 => ⟨((hb_h1 nd11)).1, Nat.lt_of_lt_of_le ((hb_h1 nd11)).2 u.size⟩), (fun nd4 nd11 => fun k hk => by have := n0.feet k hk; have := (hb_h1 nd11).2; omega), (fun nd4 nd11 => fun k hk => by have := n1.feet k hk; have := (hb_h1 nd11).2; omega), (fun nd4 nd11 => fun k hk => by have := n2.feet k hk; have := (hb_h1 nd11).2; omega), (fun nd10 nd11 => (hne_h0_1 nd10 nd11))⟩)⟩
          refine StepsG.cons (o := { dst := some 19, op := _, type := _, pos := _, after := _, guard := _ }) rfl ?_ ?_
          · intro nG lJ aJ wi K IH hS hJ hz0 hd hK
            obtain ⟨dJ, hJ⟩ := hJ
            obtain ⟨e1, hJ⟩ := hJ
            obtain ⟨e2, hF⟩ := hJ
            subst e1
            subst e2
            cases dJ with | mk l1 l3 l4 l10 l11 v1 v3 v4 v10 v11 v5 v6 v7 v8 v9 x0 F_x0 x1 F_x1 h0 F_h0 h1 F_h1 h2 hn2 hc2 F_h2 bx_h0 bx_h1 =>
            replace hF : InvRunPlayersHF w26' a0 a1 d0_0 d1_0 d2_0 d3_0 l1 l3 l4 l10 l11 v1 v3 v4 v10 v11 v5 v6 v7 v8 v9 x0 F_x0 x1 F_x1 h0 F_h0 h1 F_h1 h2 hn2 hc2 F_h2 bx_h0 bx_h1 wi := hF
            have U := hF.U
            have k3_1 := hF.k3_1
            have k4_1 := hF.k4_1
            have k4_3 := hF.k4_3
            have vq1 := hF.vq1
            have ox0 := hF.ox0
            have vq3 := hF.vq3
            have ox1 := hF.ox1
            have vq4 := hF.vq4
            have vq5 := hF.vq5
            have vq6 := hF.vq6
            have vq7 := hF.vq7
            have vq8 := hF.vq8
            have vq9 := hF.vq9
            have oh0 := hF.oh0
            have oh1 := hF.oh1
            have oh2 := hF.oh2
            have dj_h0_h1 := hF.dj_h0_h1
            have dj_h0_h2 := hF.dj_h0_h2
            have dj_h1_h2 := hF.dj_h1_h2
            have vq10 := hF.vq10
            have Bx_h0 := hF.Bx_h0
            have hb_h0 := hF.hb_h0
            have N_h0_0 := hF.N_h0_0
            have N_h1_0 := hF.N_h1_0
            have N_h2_0 := hF.N_h2_0
            have vq11 := hF.vq11
            have Bx_h1 := hF.Bx_h1
            have hb_h1 := hF.hb_h1
            have N_h0_1 := hF.N_h0_1
            have N_h1_1 := hF.N_h1_1
            have N_h2_1 := hF.N_h2_1
            have hne_h0_1 := hF.hne_h0_1
            clear hF
            have e0 : l10 = false := hz0; subst e0
            clear hz0 hd
            have B_p0 := hS.1
            have B_p1 := hS.2
            clear hS
            (try simp only [Act.put, List.setIfInBounds_toArray, List.set_cons_zero, List.set_cons_succ])
            replace k3_1 := Lib.hid k3_1
            replace k4_1 := Lib.hid k4_1
            replace k4_3 := Lib.hid k4_3
            replace vq1 := Lib.hid vq1
            replace vq10 := Lib.hid vq10
            replace vq11 := Lib.hid vq11
            replace vq3 := Lib.hid vq3
            replace vq4 := Lib.hid vq4
            replace vq5 := Lib.hid vq5
            replace vq6 := Lib.hid vq6
            replace vq7 := Lib.hid vq7
            replace vq8 := Lib.hid vq8
            replace vq9 := Lib.hid vq9
            go_simp
            refine Exists.elim (Blk.new_ wi rfl 31 #[.int .i64 0, .int .i64 0, .int .i64 0, .int .i64 0, .int .i64 0, .slice none 0 0, .slice none 0 0, .int .i64 0, .slice none 0 0, .int .i64 0, .int .i64 0]) (fun wo q => ?_)
            rw [q.1]
            have B_h0 := q.2.1; have u := q.2.2.2; have ha : wi.heap.size < wo.heap.size := Nat.le_of_eq q.2.2.1.symm; clear q
            replace B_p0 := (B_p0).below u
            replace B_p1 := (B_p1).below u
            refine hK.out _ _ ⟨B_p0, B_p1⟩ ?_
            have hS2 := (⟨B_p0, B_p1⟩ : (fun W => Blk W (w.heap.size) 26 #[.int .i64 a0.P, .int .i64 a0.party, .int .i64 a0.input, .int .i64 a0.mask, .int .i64 a0.delta, .slice p0.sa p0.sn p0.sc, .slice p0.ka p0.kn p0.kc, .int .i64 a0.step, .slice p0.ha p0.hn p0.hc, .int .i64 a0.status, .int .i64 a0.out] ∧ Blk W (w.heap.size + 1) 26 #[.int .i64 a1.P, .int .i64 a1.party, .int .i64 a1.input, .int .i64 a1.mask, .int .i64 a1.delta, .slice p1.sa p1.sn p1.sc, .slice p1.ka p1.kn p1.kc, .int .i64 a1.step, .slice p1.ha p1.hn p1.hc, .int .i64 a1.status, .int .i64 a1.out]) wo)
            clear hK
            try simp only [List.setIfInBounds_toArray, List.set_cons_zero, List.set_cons_succ]
            exact IH.out _ _ _ hS2 ⟨⟨l1, l3, l4, true, l11, v1, v3, v4, .pointer (some ⟨wi.heap.size, 0, none⟩), v11, v5, v6, v7, v8, v9, x0, F_x0, x1, F_x1, h0, F_h0, h1, F_h1, h2, hn2, hc2, F_h2, wi.heap.size, bx_h1⟩, rfl, by kernel_rfl, (show InvRunPlayersHF w26' a0 a1 d0_0 d1_0 d2_0 d3_0 l1 l3 l4 true l11 v1 v3 v4 (.pointer (some ⟨wi.heap.size, 0, none⟩)) v11 v5 v6 v7 v8 v9 x0 F_x0 x1 F_x1 h0 F_h0 h1 F_h1 h2 hn2 hc2 F_h2 wi.heap.size bx_h1 wo from ⟨((U).trans (u.mono (U).size)), (fun nd3 => (k3_1.out nd3)), (fun nd4 => (k4_1.out nd4)), (fun nd4 => (k4_3.out nd4)), (fun nd1 => (vq1.out nd1)), (fun nd1 => ((ox0 nd1)).below u), (fun nd3 => (vq3.out nd3)), (fun nd3 => ((ox1 nd3)).below u), (fun nd4 => (vq4.out nd4)), (fun nd4 => (vq5.out nd4)), (fun nd4 => (vq6.out nd4)), (fun nd4 => (vq7.out nd4)), (fun nd4 => (vq8.out nd4)), (fun nd4 => (vq9.out nd4)), (fun nd4 => ((oh0 nd4)).below u), (fun nd4 => ((oh1 nd4)).below u), (fun nd4 => ((oh2 nd4)).below u), (fun nd4 => (dj_h0_h1 nd4)), (fun nd4 => (dj_h0_h2 nd4)), (fun nd4 => (dj_h1_h2 nd4)), (fun nd10 => rfl), (fun nd10 => B_h0), (fun nd10 => ⟨U.size, ha⟩), (fun nd4 nd10 => fun k hk => by have := (oh0 nd4).feet k hk; omega), (fun nd4 nd10 => fun k hk => by have := (oh1 nd4).feet k hk; omega), (fun nd4 nd10 => fun k hk => by have := (oh2 nd4).feet k hk; omega), (fun nd11 => (vq11.out nd11)), (fun nd11 => ((Bx_h1 nd11)).below u), (fun nd11 => ⟨((hb_h1 nd11)).1, Nat.lt_of_lt_of_le ((hb_h1 nd11)).2 u.size⟩), (fun nd4 nd11 => (N_h0_1 nd4 nd11)), (fun nd4 nd11 => (N_h1_1 nd4 nd11)), (fun nd4 nd11 => (N_h2_1 nd4 nd11)), (fun nd10 nd11 => by have := (hb_h1 nd11).2; omega)⟩)⟩
          refine StepsG.cons (o := { dst := some 20, op := _, type := _, pos := _, after := _, guard := _ }) rfl ?_ ?_
          · intro nG lJ aJ wi K IH hS hJ hz0 hd hK
            obtain ⟨dJ, hJ⟩ := hJ
            obtain ⟨e1, hJ⟩ := hJ
            obtain ⟨e2, hF⟩ := hJ
            subst e1
            subst e2
            cases dJ with | mk l1 l3 l4 l10 l11 v1 v3 v4 v10 v11 v5 v6 v7 v8 v9 x0 F_x0 x1 F_x1 h0 F_h0 h1 F_h1 h2 hn2 hc2 F_h2 bx_h0 bx_h1 =>
            replace hF : InvRunPlayersHF w26' a0 a1 d0_0 d1_0 d2_0 d3_0 l1 l3 l4 l10 l11 v1 v3 v4 v10 v11 v5 v6 v7 v8 v9 x0 F_x0 x1 F_x1 h0 F_h0 h1 F_h1 h2 hn2 hc2 F_h2 bx_h0 bx_h1 wi := hF
            have U := hF.U
            have k3_1 := hF.k3_1
            have k4_1 := hF.k4_1
            have k4_3 := hF.k4_3
            have vq1 := hF.vq1
            have ox0 := hF.ox0
            have vq3 := hF.vq3
            have ox1 := hF.ox1
            have vq4 := hF.vq4
            have vq5 := hF.vq5
            have vq6 := hF.vq6
            have vq7 := hF.vq7
            have vq8 := hF.vq8
            have vq9 := hF.vq9
            have oh0 := hF.oh0
            have oh1 := hF.oh1
            have oh2 := hF.oh2
            have dj_h0_h1 := hF.dj_h0_h1
            have dj_h0_h2 := hF.dj_h0_h2
            have dj_h1_h2 := hF.dj_h1_h2
            have vq10 := hF.vq10
            have Bx_h0 := hF.Bx_h0
            have hb_h0 := hF.hb_h0
            have N_h0_0 := hF.N_h0_0
            have N_h1_0 := hF.N_h1_0
            have N_h2_0 := hF.N_h2_0
            have vq11 := hF.vq11
            have Bx_h1 := hF.Bx_h1
            have hb_h1 := hF.hb_h1
            have N_h0_1 := hF.N_h0_1
            have N_h1_1 := hF.N_h1_1
            have N_h2_1 := hF.N_h2_1
            have hne_h0_1 := hF.hne_h0_1
            clear hF
            have e0 : l11 = false := hz0; subst e0
            clear hz0 hd
            have B_p0 := hS.1
            have B_p1 := hS.2
            clear hS
            (try simp only [Act.put, List.setIfInBounds_toArray, List.set_cons_zero, List.set_cons_succ])
            replace k3_1 := Lib.hid k3_1
            replace k4_1 := Lib.hid k4_1
            replace k4_3 := Lib.hid k4_3
            replace vq1 := Lib.hid vq1
            replace vq10 := Lib.hid vq10
            replace vq11 := Lib.hid vq11
            replace vq3 := Lib.hid vq3
            replace vq4 := Lib.hid vq4
            replace vq5 := Lib.hid vq5
            replace vq6 := Lib.hid vq6
            replace vq7 := Lib.hid vq7
            replace vq8 := Lib.hid vq8
            replace vq9 := Lib.hid vq9
            go_simp
            refine Exists.elim (Blk.new_ wi rfl 31 #[.int .i64 0, .int .i64 0, .int .i64 0, .int .i64 0, .int .i64 0, .slice none 0 0, .slice none 0 0, .int .i64 0, .slice none 0 0, .int .i64 0, .int .i64 0]) (fun wo q => ?_)
            rw [q.1]
            have B_h1 := q.2.1; have u := q.2.2.2; have ha : wi.heap.size < wo.heap.size := Nat.le_of_eq q.2.2.1.symm; clear q
            replace B_p0 := (B_p0).below u
            replace B_p1 := (B_p1).below u
            refine hK.out _ _ ⟨B_p0, B_p1⟩ ?_
            have hS2 := (⟨B_p0, B_p1⟩ : (fun W => Blk W (w.heap.size) 26 #[.int .i64 a0.P, .int .i64 a0.party, .int .i64 a0.input, .int .i64 a0.mask, .int .i64 a0.delta, .slice p0.sa p0.sn p0.sc, .slice p0.ka p0.kn p0.kc, .int .i64 a0.step, .slice p0.ha p0.hn p0.hc, .int .i64 a0.status, .int .i64 a0.out] ∧ Blk W (w.heap.size + 1) 26 #[.int .i64 a1.P, .int .i64 a1.party, .int .i64 a1.input, .int .i64 a1.mask, .int .i64 a1.delta, .slice p1.sa p1.sn p1.sc, .slice p1.ka p1.kn p1.kc, .int .i64 a1.step, .slice p1.ha p1.hn p1.hc, .int .i64 a1.status, .int .i64 a1.out]) wo)
            clear hK
            try simp only [List.setIfInBounds_toArray, List.set_cons_zero, List.set_cons_succ]
            exact IH.out _ _ _ hS2 ⟨⟨l1, l3, l4, l10, true, v1, v3, v4, v10, .pointer (some ⟨wi.heap.size, 0, none⟩), v5, v6, v7, v8, v9, x0, F_x0, x1, F_x1, h0, F_h0, h1, F_h1, h2, hn2, hc2, F_h2, bx_h0, wi.heap.size⟩, rfl, by kernel_rfl, (show InvRunPlayersHF w26' a0 a1 d0_0 d1_0 d2_0 d3_0 l1 l3 l4 l10 true v1 v3 v4 v10 (.pointer (some ⟨wi.heap.size, 0, none⟩)) v5 v6 v7 v8 v9 x0 F_x0 x1 F_x1 h0 F_h0 h1 F_h1 h2 hn2 hc2 F_h2 bx_h0 wi.heap.size wo from ⟨((U).trans (u.mono (U).size)), (fun nd3 => (k3_1.out nd3)), (fun nd4 => (k4_1.out nd4)), (fun nd4 => (k4_3.out nd4)), (fun nd1 => (vq1.out nd1)), (fun nd1 => ((ox0 nd1)).below u), (fun nd3 => (vq3.out nd3)), (fun nd3 => ((ox1 nd3)).below u), (fun nd4 => (vq4.out nd4)), (fun nd4 => (vq5.out nd4)), (fun nd4 => (vq6.out nd4)), (fun nd4 => (vq7.out nd4)), (fun nd4 => (vq8.out nd4)), (fun nd4 => (vq9.out nd4)), (fun nd4 => ((oh0 nd4)).below u), (fun nd4 => ((oh1 nd4)).below u), (fun nd4 => ((oh2 nd4)).below u), (fun nd4 => (dj_h0_h1 nd4)), (fun nd4 => (dj_h0_h2 nd4)), (fun nd4 => (dj_h1_h2 nd4)), (fun nd10 => (vq10.out nd10)), (fun nd10 => ((Bx_h0 nd10)).below u), (fun nd10 => ⟨((hb_h0 nd10)).1, Nat.lt_of_lt_of_le ((hb_h0 nd10)).2 u.size⟩), (fun nd4 nd10 => (N_h0_0 nd4 nd10)), (fun nd4 nd10 => (N_h1_0 nd4 nd10)), (fun nd4 nd10 => (N_h2_0 nd4 nd10)), (fun nd11 => rfl), (fun nd11 => B_h1), (fun nd11 => ⟨U.size, ha⟩), (fun nd4 nd11 => fun k hk => by have := (oh0 nd4).feet k hk; omega), (fun nd4 nd11 => fun k hk => by have := (oh1 nd4).feet k hk; omega), (fun nd4 nd11 => fun k hk => by have := (oh2 nd4).feet k hk; omega), (fun nd10 nd11 => by have := (hb_h0 nd10).2; omega)⟩)⟩
          exact StepsG.nil
        case he =>
          intro aJ wc hS hJ
          obtain ⟨dJ, hJ⟩ := hJ
          obtain ⟨hl, hJ⟩ := hJ
          obtain ⟨e2, hF⟩ := hJ
          subst e2
          cases dJ with | mk l1 l3 l4 l10 l11 v1 v3 v4 v10 v11 v5 v6 v7 v8 v9 x0 F_x0 x1 F_x1 h0 F_h0 h1 F_h1 h2 hn2 hc2 F_h2 bx_h0 bx_h1 =>
          replace hF : InvRunPlayersHF w26' a0 a1 d0_0 d1_0 d2_0 d3_0 l1 l3 l4 l10 l11 v1 v3 v4 v10 v11 v5 v6 v7 v8 v9 x0 F_x0 x1 F_x1 h0 F_h0 h1 F_h1 h2 hn2 hc2 F_h2 bx_h0 bx_h1 wc := hF
          have U := hF.U
          have k3_1 := hF.k3_1
          have k4_1 := hF.k4_1
          have k4_3 := hF.k4_3
          have vq1 := hF.vq1
          have ox0 := hF.ox0
          have vq3 := hF.vq3
          have ox1 := hF.ox1
          have vq4 := hF.vq4
          have vq5 := hF.vq5
          have vq6 := hF.vq6
          have vq7 := hF.vq7
          have vq8 := hF.vq8
          have vq9 := hF.vq9
          have oh0 := hF.oh0
          have oh1 := hF.oh1
          have oh2 := hF.oh2
          have dj_h0_h1 := hF.dj_h0_h1
          have dj_h0_h2 := hF.dj_h0_h2
          have dj_h1_h2 := hF.dj_h1_h2
          have vq10 := hF.vq10
          have Bx_h0 := hF.Bx_h0
          have hb_h0 := hF.hb_h0
          have N_h0_0 := hF.N_h0_0
          have N_h1_0 := hF.N_h1_0
          have N_h2_0 := hF.N_h2_0
          have vq11 := hF.vq11
          have Bx_h1 := hF.Bx_h1
          have hb_h1 := hF.hb_h1
          have N_h0_1 := hF.N_h0_1
          have N_h1_1 := hF.N_h1_1
          have N_h2_1 := hF.N_h2_1
          have hne_h0_1 := hF.hne_h0_1
          clear hF
          have e1 : true = l1 := congrArg (fun q : Array Bool => q.getD 1 true) hl; subst e1
          have e3 : true = l3 := congrArg (fun q : Array Bool => q.getD 3 true) hl; subst e3
          have e4 : true = l4 := congrArg (fun q : Array Bool => q.getD 4 true) hl; subst e4
          have e10 : true = l10 := congrArg (fun q : Array Bool => q.getD 10 true) hl; subst e10
          have e11 : true = l11 := congrArg (fun q : Array Bool => q.getD 11 true) hl; subst e11
          clear hl k3_1 k4_1 k4_3
          replace vq1 := vq1 rfl
          replace ox0 := ox0 rfl
          replace vq3 := vq3 rfl
          replace ox1 := ox1 rfl
          replace vq4 := vq4 rfl
          replace vq5 := vq5 rfl
          replace vq6 := vq6 rfl
          replace vq7 := vq7 rfl
          replace vq8 := vq8 rfl
          replace vq9 := vq9 rfl
          replace oh0 := oh0 rfl
          replace oh1 := oh1 rfl
          replace oh2 := oh2 rfl
          replace dj_h0_h1 := dj_h0_h1 rfl
          replace dj_h0_h2 := dj_h0_h2 rfl
          replace dj_h1_h2 := dj_h1_h2 rfl
          replace vq10 := vq10 rfl
          replace Bx_h0 := Bx_h0 rfl
          replace hb_h0 := hb_h0 rfl
          replace N_h0_0 := N_h0_0 rfl rfl
          replace N_h1_0 := N_h1_0 rfl rfl
          replace N_h2_0 := N_h2_0 rfl rfl
          replace vq11 := vq11 rfl
          replace Bx_h1 := Bx_h1 rfl
          replace hb_h1 := hb_h1 rfl
          replace N_h0_1 := N_h0_1 rfl rfl
          replace N_h1_1 := N_h1_1 rfl rfl
          replace N_h2_1 := N_h2_1 rfl rfl
          replace hne_h0_1 := hne_h0_1 rfl rfl
          have hHeld := hS
          have B_p0 := hS.1
          have B_p1 := hS.2
          clear hS
          (try simp only [Act.put, List.setIfInBounds_toArray, List.set_cons_zero, List.set_cons_succ])
          subst vq1 vq3 vq4 vq5 vq6 vq7 vq8 vq9 vq10 vq11
          have B_h0 := Bx_h0
          clear Bx_h0
          have B_h1 := Bx_h1
          clear Bx_h1
          have Q_oh0 := Lib.hid oh0.feet
          have Q_oh1 := Lib.hid oh1.feet
          have Q_oh2 := Lib.hid oh2.feet
          have G_all : Only [bx_h0, bx_h1] wc wc := Only.refl _ _
          refine wpAnyH_ready (rs := [12]) (by kernel_rfl) (by simp) ?_
          refine AllReadyH.cons (o := { dst := none, op := _, type := _, pos := _, after := _, guard := _ }) rfl (fun K hK => ?_) ?_
          refine step_st B_h0 (by simp [Region.wanted]) _ _ _ (by rfl) (by rfl) (by rfl) (by kernel_rfl) (by rfl) (by simp [Value.oneCell']) ?_
          intro wS12 B_h0' G
          replace B_h0 := B_h0'; clear B_h0'
          replace B_p0 := B_p0.only G (by first | (simp; done) | (simp; omega))
          replace B_p1 := B_p1.only G (by first | (simp; done) | (simp; omega))
          replace B_h1 := B_h1.only G (by first | (simp; done) | (simp; omega))
          replace oh0 := oh0.only G (fun k hk hk' => by simp at hk'; exact N_h0_0 k hk hk')
          replace oh1 := oh1.only G (fun k hk hk' => by simp at hk'; exact N_h1_0 k hk hk')
          replace oh2 := oh2.only G (fun k hk hk' => by simp at hk'; exact N_h2_0 k hk hk')
          replace G_all := G_all.trans (G.more (F' := [bx_h0, bx_h1]) (by simp))
          clear G
          refine hK.out _ _ ?_ (fun hHeld => ?_)
          · exact ⟨B_p0, B_p1⟩
          clear hK K
          (try simp only [Act.put])
          refine wpAnyH_ready (rs := [13]) (by kernel_rfl) (by simp) ?_
          refine AllReadyH.cons (o := { dst := none, op := _, type := _, pos := _, after := _, guard := _ }) rfl (fun K hK => ?_) ?_
          refine step_st B_h1 (by simp [Region.wanted]) _ _ _ (by rfl) (by rfl) (by rfl) (by kernel_rfl) (by rfl) (by simp [Value.oneCell']) ?_
          intro wS13 B_h1' G
          replace B_h1 := B_h1'; clear B_h1'
          replace B_p0 := B_p0.only G (by first | (simp; done) | (simp; omega))
          replace B_p1 := B_p1.only G (by first | (simp; done) | (simp; omega))
          replace B_h0 := B_h0.only G (by first | (simp; done) | (simp; omega))
          replace oh0 := oh0.only G (fun k hk hk' => by simp at hk'; exact N_h0_1 k hk hk')
          replace oh1 := oh1.only G (fun k hk hk' => by simp at hk'; exact N_h1_1 k hk hk')
          replace oh2 := oh2.only G (fun k hk hk' => by simp at hk'; exact N_h2_1 k hk hk')
          replace G_all := G_all.trans (G.more (F' := [bx_h0, bx_h1]) (by simp))
          clear G
          refine hK.out _ _ ?_ (fun hHeld => ?_)
          · exact ⟨B_p0, B_p1⟩
          clear hK K
          (try simp only [Act.put])
          refine wpAnyH_take (i := 14) (oi := { dst := some 21, op := _, type := _, pos := _, after := _, guard := _ }) (v := ?v14_9) rfl (by kernel_rfl) (by kernel_rfl) (by kernel_rfl) (fun _ _ _ h => h) (Or.inl ⟨by rfl, ?hy14_9⟩) hHeld ?rest14_9
          case hy14_9 => (intro w _; first | (go_simp; done) | (go_simp; with_reducible rfl) | (with_reducible rfl))
          (try simp only [Act.put, List.setIfInBounds_toArray, List.set_cons_zero, List.set_cons_succ])
          refine wpAnyH_take (i := 15) (oi := { dst := some 22, op := _, type := _, pos := _, after := _, guard := _ }) (v := ?v15_10) rfl (by kernel_rfl) (by kernel_rfl) (by kernel_rfl) (fun _ _ _ h => h) (Or.inl ⟨by rfl, ?hy15_10⟩) hHeld ?rest15_10
          case hy15_10 => (intro w _; first | (go_simp; done) | (go_simp; with_reducible rfl) | (with_reducible rfl))
          (try simp only [Act.put, List.setIfInBounds_toArray, List.set_cons_zero, List.set_cons_succ])
          refine wpAnyH_done (by kernel_rfl) ?_ _
          refine NoPanic.normal ?_
          rotate_left 1
          exact AllReadyH.nil
          exact AllReadyH.nil
          have U2 := U.trans (G_all.below U.size (by intro q hq; simp at hq; omega))
          have SG := G_all.size
          try go_wp2_with fail
          go_meet
          exact ⟨h0, F_h0, h1, F_h1, h2, hn2, hc2, F_h2, bx_h0, bx_h1, rfl, rfl, rfl, rfl, oh0, oh1, oh2, fun k hk => ⟨oh0.feet k hk, N_h0_0 k hk, N_h0_1 k hk⟩, fun k hk => ⟨oh1.feet k hk, N_h1_0 k hk, N_h1_1 k hk⟩, fun k hk => ⟨oh2.feet k hk, N_h2_0 k hk, N_h2_1 k hk⟩, dj_h0_h1, dj_h0_h2, dj_h1_h2, B_h0, B_h1, ⟨by omega, by omega⟩, ⟨by omega, by omega⟩, hne_h0_1, U2⟩
      obtain ⟨h0, F_h0, h1, F_h1, h2, hn2, hc2, F_h2, bx_h0, bx_h1, rfl, rfl, rfl, rfl, oh0, oh1, oh2, Q_oh0, Q_oh1, Q_oh2, dj_h0_h1, dj_h0_h2, dj_h1_h2, B_h0, B_h1, hb_h0, hb_h1, hne_h0_1, u_all⟩ := hcut
      generalize wc = w27' at *
      replace B_p0 := B_p0.below u_all
      replace B_p1 := B_p1.below u_all
      replace B_r0 := B_r0.below u_all
      replace B_r1 := B_r1.below u_all
      replace B_g0 := B_g0.below u_all
      replace B_g1 := B_g1.below u_all
      replace or0 := or0.below u_all
      replace or1 := or1.below u_all
      replace or2 := or2.below u_all
      replace og0 := og0.below u_all
      replace og1 := og1.below u_all
      replace og2 := og2.below u_all
      have V_w27' := V_w26'.trans (u_all.mono (V_w26').size)
      have S_w27' := u_all.size
      clear u_all V_w26'
      replace Q_oh0 := Lib.hid Q_oh0
      replace Q_oh1 := Lib.hid Q_oh1
      replace Q_oh2 := Lib.hid Q_oh2
      have e_h0_0 := B_h0.a11_0
      have e_h0_1 := B_h0.a11_1
      have e_h0_2 := B_h0.a11_2
      have e_h0_3 := B_h0.a11_3
      have e_h0_4 := B_h0.a11_4
      have e_h0_5 := B_h0.a11_5
      have e_h0_6 := B_h0.a11_6
      have e_h0_7 := B_h0.a11_7
      have e_h0_8 := B_h0.a11_8
      have e_h0_9 := B_h0.a11_9
      have e_h0_10 := B_h0.a11_10
      have e_r0_0 := B_r0.a11_0
      have e_r0_1 := B_r0.a11_1
      have e_r0_2 := B_r0.a11_2
      have e_r0_3 := B_r0.a11_3
      have e_r0_4 := B_r0.a11_4
      have e_r0_5 := B_r0.a11_5
      have e_r0_6 := B_r0.a11_6
      have e_r0_7 := B_r0.a11_7
      have e_r0_8 := B_r0.a11_8
      have e_r0_9 := B_r0.a11_9
      have e_r0_10 := B_r0.a11_10
      go_wp2_with fail
      clear e_h0_0 e_h0_1 e_h0_2 e_h0_3 e_h0_4 e_h0_5 e_h0_6 e_h0_7 e_h0_8 e_h0_9 e_h0_10 e_r0_0 e_r0_1 e_r0_2 e_r0_3 e_r0_4 e_r0_5 e_r0_6 e_r0_7 e_r0_8 e_r0_9 e_r0_10
      refine (eqPlayer_o d0_0 _ _ _ oh0.rd or0.rd).mono ?_
      rintro e w28' ⟨rfl, u_w28'⟩
      replace B_p0 := B_p0.below u_w28'
      replace B_p1 := B_p1.below u_w28'
      replace B_r0 := B_r0.below u_w28'
      replace B_r1 := B_r1.below u_w28'
      replace B_g0 := B_g0.below u_w28'
      replace B_g1 := B_g1.below u_w28'
      replace B_h0 := B_h0.below u_w28'
      replace B_h1 := B_h1.below u_w28'
      replace or0 := or0.below u_w28'
      replace or1 := or1.below u_w28'
      replace or2 := or2.below u_w28'
      replace og0 := og0.below u_w28'
      replace og1 := og1.below u_w28'
      replace og2 := og2.below u_w28'
      replace oh0 := oh0.below u_w28'
      replace oh1 := oh1.below u_w28'
      replace oh2 := oh2.below u_w28'
      have V_w28' := V_w27'.trans (u_w28'.mono (V_w27').size)
      have S_w28' := u_w28'.size
      clear u_w28' V_w27'
      have e_h1_0 := B_h1.a11_0
      have e_h1_1 := B_h1.a11_1
      have e_h1_2 := B_h1.a11_2
      have e_h1_3 := B_h1.a11_3
      have e_h1_4 := B_h1.a11_4
      have e_h1_5 := B_h1.a11_5
      have e_h1_6 := B_h1.a11_6
      have e_h1_7 := B_h1.a11_7
      have e_h1_8 := B_h1.a11_8
      have e_h1_9 := B_h1.a11_9
      have e_h1_10 := B_h1.a11_10
      have e_r1_0 := B_r1.a11_0
      have e_r1_1 := B_r1.a11_1
      have e_r1_2 := B_r1.a11_2
      have e_r1_3 := B_r1.a11_3
      have e_r1_4 := B_r1.a11_4
      have e_r1_5 := B_r1.a11_5
      have e_r1_6 := B_r1.a11_6
      have e_r1_7 := B_r1.a11_7
      have e_r1_8 := B_r1.a11_8
      have e_r1_9 := B_r1.a11_9
      have e_r1_10 := B_r1.a11_10
      go_wp2_with fail
      clear e_h1_0 e_h1_1 e_h1_2 e_h1_3 e_h1_4 e_h1_5 e_h1_6 e_h1_7 e_h1_8 e_h1_9 e_h1_10 e_r1_0 e_r1_1 e_r1_2 e_r1_3 e_r1_4 e_r1_5 e_r1_6 e_r1_7 e_r1_8 e_r1_9 e_r1_10
      refine (eqPlayer_o d1_0 _ _ _ oh1.rd or1.rd).mono ?_
      rintro e w29' ⟨rfl, u_w29'⟩
      replace B_p0 := B_p0.below u_w29'
      replace B_p1 := B_p1.below u_w29'
      replace B_r0 := B_r0.below u_w29'
      replace B_r1 := B_r1.below u_w29'
      replace B_g0 := B_g0.below u_w29'
      replace B_g1 := B_g1.below u_w29'
      replace B_h0 := B_h0.below u_w29'
      replace B_h1 := B_h1.below u_w29'
      replace or0 := or0.below u_w29'
      replace or1 := or1.below u_w29'
      replace or2 := or2.below u_w29'
      replace og0 := og0.below u_w29'
      replace og1 := og1.below u_w29'
      replace og2 := og2.below u_w29'
      replace oh0 := oh0.below u_w29'
      replace oh1 := oh1.below u_w29'
      replace oh2 := oh2.below u_w29'
      have V_w29' := V_w28'.trans (u_w29'.mono (V_w28').size)
      have S_w29' := u_w29'.size
      clear u_w29' V_w28'
      go_wp2_with fail
      refine (eqMessageS_o _ _ _ _ _ _ _ _ oh2.rd or2.rd).mono ?_
      rintro e w30' ⟨rfl, u_w30'⟩
      replace B_p0 := B_p0.below u_w30'
      replace B_p1 := B_p1.below u_w30'
      replace B_r0 := B_r0.below u_w30'
      replace B_r1 := B_r1.below u_w30'
      replace B_g0 := B_g0.below u_w30'
      replace B_g1 := B_g1.below u_w30'
      replace B_h0 := B_h0.below u_w30'
      replace B_h1 := B_h1.below u_w30'
      replace or0 := or0.below u_w30'
      replace or1 := or1.below u_w30'
      replace or2 := or2.below u_w30'
      replace og0 := og0.below u_w30'
      replace og1 := og1.below u_w30'
      replace og2 := og2.below u_w30'
      replace oh0 := oh0.below u_w30'
      replace oh1 := oh1.below u_w30'
      replace oh2 := oh2.below u_w30'
      have V_w30' := V_w29'.trans (u_w30'.mono (V_w29').size)
      have S_w30' := u_w30'.size
      clear u_w30' V_w29'
      have e_g0_0 := B_g0.a11_0
      have e_g0_1 := B_g0.a11_1
      have e_g0_2 := B_g0.a11_2
      have e_g0_3 := B_g0.a11_3
      have e_g0_4 := B_g0.a11_4
      have e_g0_5 := B_g0.a11_5
      have e_g0_6 := B_g0.a11_6
      have e_g0_7 := B_g0.a11_7
      have e_g0_8 := B_g0.a11_8
      have e_g0_9 := B_g0.a11_9
      have e_g0_10 := B_g0.a11_10
      go_wp2_with fail
      clear e_g0_0 e_g0_1 e_g0_2 e_g0_3 e_g0_4 e_g0_5 e_g0_6 e_g0_7 e_g0_8 e_g0_9 e_g0_10
      refine (heldPlayer_o _ _ _ _ _ _ _ og0.rd U_og0.out (by omega) (by omega)).mono ?_
      rintro e w31' ⟨rfl, u_w31'⟩
      replace B_p0 := B_p0.below u_w31'
      replace B_p1 := B_p1.below u_w31'
      replace B_r0 := B_r0.below u_w31'
      replace B_r1 := B_r1.below u_w31'
      replace B_g0 := B_g0.below u_w31'
      replace B_g1 := B_g1.below u_w31'
      replace B_h0 := B_h0.below u_w31'
      replace B_h1 := B_h1.below u_w31'
      replace or0 := or0.below u_w31'
      replace or1 := or1.below u_w31'
      replace or2 := or2.below u_w31'
      replace og0 := og0.below u_w31'
      replace og1 := og1.below u_w31'
      replace og2 := og2.below u_w31'
      replace oh0 := oh0.below u_w31'
      replace oh1 := oh1.below u_w31'
      replace oh2 := oh2.below u_w31'
      have V_w31' := V_w30'.trans (u_w31'.mono (V_w30').size)
      have S_w31' := u_w31'.size
      clear u_w31' V_w30'
      have e_g1_0 := B_g1.a11_0
      have e_g1_1 := B_g1.a11_1
      have e_g1_2 := B_g1.a11_2
      have e_g1_3 := B_g1.a11_3
      have e_g1_4 := B_g1.a11_4
      have e_g1_5 := B_g1.a11_5
      have e_g1_6 := B_g1.a11_6
      have e_g1_7 := B_g1.a11_7
      have e_g1_8 := B_g1.a11_8
      have e_g1_9 := B_g1.a11_9
      have e_g1_10 := B_g1.a11_10
      go_wp2_with fail
      clear e_g1_0 e_g1_1 e_g1_2 e_g1_3 e_g1_4 e_g1_5 e_g1_6 e_g1_7 e_g1_8 e_g1_9 e_g1_10
      refine (heldPlayer_o _ _ _ _ _ _ _ og1.rd U_og1.out (by omega) (by omega)).mono ?_
      rintro e w32' ⟨rfl, u_w32'⟩
      replace B_p0 := B_p0.below u_w32'
      replace B_p1 := B_p1.below u_w32'
      replace B_r0 := B_r0.below u_w32'
      replace B_r1 := B_r1.below u_w32'
      replace B_g0 := B_g0.below u_w32'
      replace B_g1 := B_g1.below u_w32'
      replace B_h0 := B_h0.below u_w32'
      replace B_h1 := B_h1.below u_w32'
      replace or0 := or0.below u_w32'
      replace or1 := or1.below u_w32'
      replace or2 := or2.below u_w32'
      replace og0 := og0.below u_w32'
      replace og1 := og1.below u_w32'
      replace og2 := og2.below u_w32'
      replace oh0 := oh0.below u_w32'
      replace oh1 := oh1.below u_w32'
      replace oh2 := oh2.below u_w32'
      have V_w32' := V_w31'.trans (u_w32'.mono (V_w31').size)
      have S_w32' := u_w32'.size
      clear u_w32' V_w31'
      go_wp2_with fail
      refine (heldMessageS_o _ _ _ _ _ _ og2.rd U_og2.out (by omega) (by omega)).mono ?_
      rintro e w33' ⟨rfl, u_w33'⟩
      replace B_p0 := B_p0.below u_w33'
      replace B_p1 := B_p1.below u_w33'
      replace B_r0 := B_r0.below u_w33'
      replace B_r1 := B_r1.below u_w33'
      replace B_g0 := B_g0.below u_w33'
      replace B_g1 := B_g1.below u_w33'
      replace B_h0 := B_h0.below u_w33'
      replace B_h1 := B_h1.below u_w33'
      replace or0 := or0.below u_w33'
      replace or1 := or1.below u_w33'
      replace or2 := or2.below u_w33'
      replace og0 := og0.below u_w33'
      replace og1 := og1.below u_w33'
      replace og2 := og2.below u_w33'
      replace oh0 := oh0.below u_w33'
      replace oh1 := oh1.below u_w33'
      replace oh2 := oh2.below u_w33'
      have V_w33' := V_w32'.trans (u_w33'.mono (V_w32').size)
      have S_w33' := u_w33'.size
      clear u_w33' V_w32'
      go_wp2
      go_ret
      exact ⟨rfl, V_w33'⟩
    · skip
      go_enter Tryd.func12, Tryd.ntmps12
      go_wp2_with fail
      refine Exists.elim (Blk.new_ w (b := w.heap.size) rfl 26 #[.int .i64 a0.P, .int .i64 a0.party, .int .i64 a0.input, .int .i64 a0.mask, .int .i64 a0.delta, .slice p0.sa p0.sn p0.sc, .slice p0.ka p0.kn p0.kc, .int .i64 a0.step, .slice p0.ha p0.hn p0.hc, .int .i64 a0.status, .int .i64 a0.out]) (fun w34_a0' q => ?_)
      rw [q.1]; have B_p0 := q.2.1; have s_w34_a0' := q.2.2.1; have u_w34_a0' := q.2.2.2; clear q
      refine Exists.elim (Blk.new_ w34_a0' (b := w.heap.size + 1) s_w34_a0' 26 #[.int .i64 a1.P, .int .i64 a1.party, .int .i64 a1.input, .int .i64 a1.mask, .int .i64 a1.delta, .slice p1.sa p1.sn p1.sc, .slice p1.ka p1.kn p1.kc, .int .i64 a1.step, .slice p1.ha p1.hn p1.hc, .int .i64 a1.status, .int .i64 a1.out]) (fun w34' q => ?_)
      rw [q.1]; have B_p1 := q.2.1; have s_w34' := q.2.2.1; have u_w34' := q.2.2.2; clear q
      replace B_p0 := (B_p0.below u_w34')
      have U := (u_w34_a0'.trans (u_w34'.mono u_w34_a0'.size))
      have V_w34' := (Below.refl w.heap.size w).trans (U.mono ((Below.refl w.heap.size w)).size)
      have S_w34' : w.heap.size + 2 ≤ w34'.heap.size := Nat.le_of_eq s_w34'.symm
      clear u_w34_a0' u_w34' s_w34_a0' s_w34' U
      refine (szPlayer_o_yes a0 p0 (1048576) _ (z0.below V_w34') (by omega) (by omega)).mono ?_
      rintro e w35' ⟨rfl, u_w35'⟩
      replace B_p0 := B_p0.below u_w35'
      replace B_p1 := B_p1.below u_w35'
      have V_w35' := V_w34'.trans (u_w35'.mono (V_w34').size)
      have S_w35' := u_w35'.size
      clear u_w35' V_w34'
      have e_p1_0 := B_p1.a11_0
      have e_p1_1 := B_p1.a11_1
      have e_p1_2 := B_p1.a11_2
      have e_p1_3 := B_p1.a11_3
      have e_p1_4 := B_p1.a11_4
      have e_p1_5 := B_p1.a11_5
      have e_p1_6 := B_p1.a11_6
      have e_p1_7 := B_p1.a11_7
      have e_p1_8 := B_p1.a11_8
      have e_p1_9 := B_p1.a11_9
      have e_p1_10 := B_p1.a11_10
      go_wp2_with fail
      clear e_p1_0 e_p1_1 e_p1_2 e_p1_3 e_p1_4 e_p1_5 e_p1_6 e_p1_7 e_p1_8 e_p1_9 e_p1_10
      refine (szPlayer_o_no a1 p1 (1048576 - (szP p0 a0.shares a0.keys a0.heard : Int)) _ (z1.below V_w35') (by omega) (by omega) (by omega)).mono ?_
      rintro e w36' ⟨rfl, u_w36'⟩
      replace B_p0 := B_p0.below u_w36'
      replace B_p1 := B_p1.below u_w36'
      have V_w36' := V_w35'.trans (u_w36'.mono (V_w35').size)
      have S_w36' := u_w36'.size
      clear u_w36' V_w35'
      go_wp2
      go_ret
      exact ⟨rfl, V_w36'⟩
  · skip
    go_enter Tryd.func12, Tryd.ntmps12
    go_wp2_with fail
    refine Exists.elim (Blk.new_ w (b := w.heap.size) rfl 26 #[.int .i64 a0.P, .int .i64 a0.party, .int .i64 a0.input, .int .i64 a0.mask, .int .i64 a0.delta, .slice p0.sa p0.sn p0.sc, .slice p0.ka p0.kn p0.kc, .int .i64 a0.step, .slice p0.ha p0.hn p0.hc, .int .i64 a0.status, .int .i64 a0.out]) (fun w37_a0' q => ?_)
    rw [q.1]; have B_p0 := q.2.1; have s_w37_a0' := q.2.2.1; have u_w37_a0' := q.2.2.2; clear q
    refine Exists.elim (Blk.new_ w37_a0' (b := w.heap.size + 1) s_w37_a0' 26 #[.int .i64 a1.P, .int .i64 a1.party, .int .i64 a1.input, .int .i64 a1.mask, .int .i64 a1.delta, .slice p1.sa p1.sn p1.sc, .slice p1.ka p1.kn p1.kc, .int .i64 a1.step, .slice p1.ha p1.hn p1.hc, .int .i64 a1.status, .int .i64 a1.out]) (fun w37' q => ?_)
    rw [q.1]; have B_p1 := q.2.1; have s_w37' := q.2.2.1; have u_w37' := q.2.2.2; clear q
    replace B_p0 := (B_p0.below u_w37')
    have U := (u_w37_a0'.trans (u_w37'.mono u_w37_a0'.size))
    have V_w37' := (Below.refl w.heap.size w).trans (U.mono ((Below.refl w.heap.size w)).size)
    have S_w37' : w.heap.size + 2 ≤ w37'.heap.size := Nat.le_of_eq s_w37'.symm
    clear u_w37_a0' u_w37' s_w37_a0' s_w37' U
    refine (szPlayer_o_no a0 p0 (1048576) _ (z0.below V_w37') (by omega) (by omega) (by omega)).mono ?_
    rintro e w38' ⟨rfl, u_w38'⟩
    replace B_p0 := B_p0.below u_w38'
    replace B_p1 := B_p1.below u_w38'
    have V_w38' := V_w37'.trans (u_w38'.mono (V_w37').size)
    have S_w38' := u_w38'.size
    clear u_w38' V_w37'
    go_wp2
    go_ret
    exact ⟨rfl, V_w38'⟩
end Go.Proofs.YtlmdckcohoddnaaDoor
