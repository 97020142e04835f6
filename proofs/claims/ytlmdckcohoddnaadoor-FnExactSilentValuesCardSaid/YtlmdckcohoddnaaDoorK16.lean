/- Lemmas and walks that the claim's proof rests on, part 16. -/
import Derived.Test.YtlmdckcohoddnaaDoorK2
import Derived.Test.YtlmdckcohoddnaaDoorK11
import Derived.Test.YtlmdckcohoddnaaDoorK14
import Derived.Test.YtlmdckcohoddnaaDoorK15
namespace Go.Proofs.YtlmdckcohoddnaaDoor
open Go.RowKit
theorem Tbl.only {X : List Nat} {w w' : World} (h : Tbl w) (ho : Only X w w') (h0 : 0 ∉ X) : Tbl w' := by
  obtain ⟨h1, h2, h3⟩ := h
  exact ⟨(ho.cell (World.block_lt_of_cell? w _ h1) h0).trans h1, (ho.cell (World.block_lt_of_cell? w _ h2) h0).trans h2, (ho.cell (World.block_lt_of_cell? w _ h3) h0).trans h3⟩
theorem Only.thn {F G : List Nat} {w w1 w2 : World} (h : Only F w w1) (k : Only G w1 w2) (hG : ∀ q ∈ G, w.heap.size ≤ q ∨ q ∈ F) : Only F w w2 :=
  ⟨k.os.trans h.os, k.tape.trans h.tape, k.output.trans h.output, Nat.le_trans h.size k.size, fun i hi hn => (k.block i (Nat.lt_of_lt_of_le hi h.size) (fun hm => by
    rcases hG i hm with h1 | h1
    · omega
    · exact hn h1)).trans (h.block i hi hn)⟩
theorem takeM_P (a : Pl) (m : MsD) : (takeM a m).P = a.P := by
  unfold takeM takeP
  split <;> rfl
theorem offLt {F X : List Nat} {B b : Nat} (hX : ∀ q ∈ X, q < B ∧ q ≠ 0) (hB : B ≤ b) {n : Nat} (hF : ∀ q ∈ F, b ≤ q ∧ q < n) : Disj F X := fun q hq hq' => by
  have := hX q hq'; have := hF q hq; omega
structure RunAD where
  l0 : Bool
  l1 : Bool
  l2 : Bool
  l3 : Bool
  v0 : Value
  v1 : Value
  v2 : Value
  v3 : Value
  ya : PlX
  Fa : List Nat
  yb : PlX
  Fb : List Nat
structure RunAF (W0 : World) (a : Pl) (b : Pl) (x : PlX) (z : PlX) (l0 : Bool) (l1 : Bool) (l2 : Bool) (l3 : Bool) (v0 : Value) (v1 : Value) (v2 : Value) (v3 : Value) (ya : PlX) (Fa : List Nat) (yb : PlX) (Fb : List Nat) (wJ : World) : Prop where
  U : Below W0.heap.size W0 wJ
  k1_0 : l1 = true → l0 = true
  k3_1 : l3 = true → l1 = true
  k3_2 : l3 = true → l2 = true
  k3_0 : l3 = true → l0 = true
  g0 : l0 = true → v0 = .agg #[.int .i64 a.P, .int .i64 a.party, .int .i64 a.input, .int .i64 a.mask, .int .i64 a.delta, .slice x.sa x.sn x.sc, .slice x.ka x.kn x.kc, .int .i64 a.step, .slice x.ha x.hn x.hc, .int .i64 a.status, .int .i64 a.out]
  g2 : l2 = true → v2 = .agg #[.int .i64 b.P, .int .i64 b.party, .int .i64 b.input, .int .i64 b.mask, .int .i64 b.delta, .slice z.sa z.sn z.sc, .slice z.ka z.kn z.kc, .int .i64 b.step, .slice z.ha z.hn z.hc, .int .i64 b.status, .int .i64 b.out]
  g1 : l1 = true → v1 = .agg #[.int .i64 a.P, .int .i64 a.party, .int .i64 a.input, .int .i64 a.mask, .int .i64 a.delta, .slice ya.sa ya.sn ya.sc, .slice ya.ka ya.kn ya.kc, .int .i64 a.step, .slice ya.ha ya.hn ya.hc, .int .i64 a.status, .int .i64 a.out]
  g3 : l3 = true → v3 = .agg #[.int .i64 b.P, .int .i64 b.party, .int .i64 b.input, .int .i64 b.mask, .int .i64 b.delta, .slice yb.sa yb.sn yb.sc, .slice yb.ka yb.kn yb.kc, .int .i64 b.step, .slice yb.ha yb.hn yb.hc, .int .i64 b.status, .int .i64 b.out]
  oa : l1 = true → PlO wJ W0.heap.size ya a.shares a.keys a.heard Fa
  ob : l3 = true → PlO wJ W0.heap.size yb b.shares b.keys b.heard Fb
  DD : l1 = true → l3 = true → Disj Fa Fb
structure RunLD where
  k : Nat
  s : Pl
  t : Pl
  D : List MsD
  xs : PlX
  ys : PlX
  Fa : List Nat
  Fb : List Nat
  p : Option Addr
  c : Nat
  Fm : List Nat
  Ti : List Nat
structure RunLF (chg : Int → MsD → MsD) (I : World → List Nat → Prop) (F0 : List Nat) (RP : Pl × Pl × List MsD) (aP : Int) (w : World) (k : Nat) (s t : Pl) (D : List MsD) (xs ys : PlX) (Fa Fb : List Nat) (p : Option Addr) (c : Nat) (Fm Ti : List Nat) (wr : World) : Prop where
  hk : k ≤ 3
  V : Only F0 w wr
  Br : Blk wr (w.heap.size + 2) 31 #[.int .i64 0, .int .i64 0, .int .i64 0, .int .i64 0, .int .i64 0, .slice none 0 0, .slice none 0 0, .int .i64 0, .slice none 0 0, .int .i64 0, .int .i64 0]
  Bq : Blk wr (w.heap.size + 3) 31 #[.int .i64 0, .int .i64 0, .int .i64 0, .int .i64 0, .int .i64 0, .slice none 0 0, .slice none 0 0, .int .i64 0, .slice none 0 0, .int .i64 0, .int .i64 0]
  sz : w.heap.size + 4 ≤ wr.heap.size
  dl : D.length = 2 * k
  Ba : Blk wr w.heap.size 31 #[.int .i64 s.P, .int .i64 s.party, .int .i64 s.input, .int .i64 s.mask, .int .i64 s.delta, .slice xs.sa xs.sn xs.sc, .slice xs.ka xs.kn xs.kc, .int .i64 s.step, .slice xs.ha xs.hn xs.hc, .int .i64 s.status, .int .i64 s.out]
  Bb : Blk wr (w.heap.size + 1) 31 #[.int .i64 t.P, .int .i64 t.party, .int .i64 t.input, .int .i64 t.mask, .int .i64 t.delta, .slice ys.sa ys.sn ys.sc, .slice ys.ka ys.kn ys.kc, .int .i64 t.step, .slice ys.ha ys.hn ys.hc, .int .i64 t.status, .int .i64 t.out]
  oa : PlO wr (w.heap.size + 4) xs s.shares s.keys s.heard Fa
  ob : PlO wr (w.heap.size + 4) ys t.shares t.keys t.heard Fb
  om : MsO wr (w.heap.size + 4) p (2 * k) c D Fm
  dab : Disj Fa Fb
  dam : Disj Fa Fm
  dbm : Disj Fb Fm
  hS : k < 3 → RunS k s t
  sP : s.P = aP
  tP : t.P = aP
  rp : RP = runP chg (3 - k) s t D
  it : I wr Ti
  tl : ∀ q ∈ Ti, q < wr.heap.size ∧ (q < w.heap.size ∨ w.heap.size + 4 ≤ q)
  tp : Disj Ti (foot p c)
structure RunBD where
  l3 : Bool
  l4 : Bool
  l8 : Bool
  l9 : Bool
  l10 : Bool
  l11 : Bool
  l12 : Bool
  v3 : Value
  v4 : Value
  v8 : Value
  v9 : Value
  v10 : Value
  v11 : Value
  b1 : Option Addr
  c1 : Nat
  b2 : Option Addr
  c2 : Nat
  bx_m : Nat
  bx_n : Nat
structure RunBF (W0 : World) (s : Pl) (t : Pl) (l3 : Bool) (l4 : Bool) (l8 : Bool) (l9 : Bool) (l10 : Bool) (l11 : Bool) (l12 : Bool) (v3 : Value) (v4 : Value) (v8 : Value) (v9 : Value) (v10 : Value) (v11 : Value) (b1 : Option Addr) (c1 : Nat) (b2 : Option Addr) (c2 : Nat) (bx_m : Nat) (bx_n : Nat) (wJ : World) : Prop where
  U : Below W0.heap.size W0 wJ
  k4_3 : l4 = true → l3 = true
  k8_3 : l8 = true → l3 = true
  k9_8 : l9 = true → l8 = true
  k9_3 : l9 = true → l3 = true
  k12_3 : l12 = true → l3 = true
  k12_4 : l12 = true → l4 = true
  k12_8 : l12 = true → l8 = true
  k12_10 : l12 = true → l10 = true
  k12_11 : l12 = true → l11 = true
  r3 : l3 = true → v3 = .slice b1 (bodyL s).length c1
  r4 : l4 = true → v4 = .agg #[.int .i64 0, .int .i64 s.step, .slice b1 (bodyL s).length c1]
  r8 : l8 = true → v8 = .slice b2 (bodyL t).length c2
  r9 : l9 = true → v9 = .agg #[.int .i64 1, .int .i64 t.step, .slice b2 (bodyL t).length c2]
  r10 : l10 = true → v10 = .pointer (some ⟨bx_m, 0, none⟩)
  r11 : l11 = true → v11 = .pointer (some ⟨bx_n, 0, none⟩)
  Bm : l10 = true → (l12 = false → Blk wJ bx_m 44 #[.int .i64 0, .int .i64 0, .slice none 0 0])
  Bm2 : l12 = true → Blk wJ bx_m 44 #[.int .i64 0, .int .i64 s.step, .slice b1 (bodyL s).length c1]
  Bn : l11 = true → Blk wJ bx_n 44 #[.int .i64 0, .int .i64 0, .slice none 0 0]
  hb_m : l10 = true → (W0.heap.size ≤ bx_m ∧ bx_m < wJ.heap.size)
  hb_n : l11 = true → (W0.heap.size ≤ bx_n ∧ bx_n < wJ.heap.size)
  ne_mn : l10 = true → l11 = true → bx_m ≠ bx_n
  m1 : l3 = true → Own wJ W0.heap.size b1 (bodyL s).length c1 (bodyL s)
  m2 : l8 = true → Own wJ W0.heap.size b2 (bodyL t).length c2 (bodyL t)
  D12 : l3 = true → l8 = true → Disj (foot b1 c1) (foot b2 c2)
  m1m : l3 = true → l10 = true → bx_m ∉ foot b1 c1
  m1n : l3 = true → l11 = true → bx_n ∉ foot b1 c1
  m2m : l8 = true → l10 = true → bx_m ∉ foot b2 c2
  m2n : l8 = true → l11 = true → bx_n ∉ foot b2 c2
structure RunCD where
  l0 : Bool
  l5 : Bool
  l6 : Bool
  l7 : Bool
  l11 : Bool
  l12 : Bool
  v0 : Value
  v5 : Value
  v6 : Value
  v7 : Value
  v11 : Value
  v12 : Value
  pa : Option Addr
  na : Nat
  ca : Nat
  xa : PlX
  Fa2 : List Nat
  pb : Option Addr
  nb : Nat
  cb : Nat
  xb : PlX
  Fb2 : List Nat
  Ti2 : List Nat
structure RunCF (W0 : World) (F0 : List Nat) (I : World → List Nat → Prop) (s : Pl) (t : Pl) (s2 : Pl) (t2 : Pl) (xs : PlX) (ys : PlX) (cm : MsD) (cn : MsD) (b1 : Option Addr) (c1 : Nat) (b2 : Option Addr) (c2 : Nat) (Ti : List Nat) (l0 : Bool) (l5 : Bool) (l6 : Bool) (l7 : Bool) (l11 : Bool) (l12 : Bool) (v0 : Value) (v5 : Value) (v6 : Value) (v7 : Value) (v11 : Value) (v12 : Value) (pa : Option Addr) (na : Nat) (ca : Nat) (xa : PlX) (Fa2 : List Nat) (pb : Option Addr) (nb : Nat) (cb : Nat) (xb : PlX) (Fb2 : List Nat) (Ti2 : List Nat) (wJ : World) : Prop where
  U : Only F0 W0 wJ
  k6_0 : l6 = true → l0 = true
  k6_5 : l6 = true → l5 = true
  k11_6 : l11 = true → l6 = true
  k11_0 : l11 = true → l0 = true
  k11_5 : l11 = true → l5 = true
  k12_7 : l12 = true → l7 = true
  k12_11 : l12 = true → l11 = true
  k12_6 : l12 = true → l6 = true
  k12_0 : l12 = true → l0 = true
  k12_5 : l12 = true → l5 = true
  g0 : l0 = true → v0 = .agg #[.int .i64 s.P, .int .i64 s.party, .int .i64 s.input, .int .i64 s.mask, .int .i64 s.delta, .slice xs.sa xs.sn xs.sc, .slice xs.ka xs.kn xs.kc, .int .i64 s.step, .slice xs.ha xs.hn xs.hc, .int .i64 s.status, .int .i64 s.out]
  g7 : l7 = true → v7 = .agg #[.int .i64 t.P, .int .i64 t.party, .int .i64 t.input, .int .i64 t.mask, .int .i64 t.delta, .slice ys.sa ys.sn ys.sc, .slice ys.ka ys.kn ys.kc, .int .i64 t.step, .slice ys.ha ys.hn ys.hc, .int .i64 t.status, .int .i64 t.out]
  r5 : l5 = true → v5 = .agg #[.int .i64 cm.1, .int .i64 cm.2.1, .slice pa na ca]
  r11 : l11 = true → v11 = .agg #[.int .i64 cn.1, .int .i64 cn.2.1, .slice pb nb cb]
  r6 : l6 = true → v6 = .agg #[.int .i64 s2.P, .int .i64 s2.party, .int .i64 s2.input, .int .i64 s2.mask, .int .i64 s2.delta, .slice xa.sa xa.sn xa.sc, .slice xa.ka xa.kn xa.kc, .int .i64 s2.step, .slice xa.ha xa.hn xa.hc, .int .i64 s2.status, .int .i64 s2.out]
  r12 : l12 = true → v12 = .agg #[.int .i64 t2.P, .int .i64 t2.party, .int .i64 t2.input, .int .i64 t2.mask, .int .i64 t2.delta, .slice xb.sa xb.sn xb.sc, .slice xb.ka xb.kn xb.kc, .int .i64 t2.step, .slice xb.ha xb.hn xb.hc, .int .i64 t2.status, .int .i64 t2.out]
  i5 : l5 = true → (l6 = false → Ints wJ pa na ca cm.2.2)
  i11 : l11 = true → (l12 = false → Ints wJ pb nb cb cn.2.2)
  o6 : l6 = true → PlO wJ W0.heap.size xa s2.shares s2.keys s2.heard Fa2
  o12 : l12 = true → PlO wJ W0.heap.size xb t2.shares t2.keys t2.heard Fb2
  D612 : l6 = true → l12 = true → Disj Fa2 Fb2
  IT : I wJ Ti2
  TL : (∀ q ∈ Ti2, q < wJ.heap.size)
  TS : (∀ q ∈ Ti2, q ∈ Ti ∨ q ∈ foot b1 c1 ∨ q ∈ foot b2 c2 ∨ W0.heap.size ≤ q)
set_option maxHeartbeats 16000000 in
set_option maxRecDepth 100000 in
theorem runPlayers_any (fid : Nat) (hent : ∀ args W, (callFunc fid args).run Tryd.prog W = .ok (.enter fid args) W) (caps : Array Value) (chg : Int → MsD → MsD) (a b : Pl) (x z : PlX) (w : World) (h : PlR w x a.shares a.keys a.heard) (h' : PlR w z b.shares b.keys b.heard) (hT : Tbl w) (hR : RunS 0 a b) (hP : a.P = b.P)
    (F0 : List Nat) (I : World → List Nat → Prop) (T0 : List Nat) (hF0 : ∀ q ∈ F0, q < w.heap.size ∧ q ≠ 0) (hT0 : ∀ q ∈ T0, q < w.heap.size) (hI : I w T0) (IS : ∀ (W W' : World) (T X : List Nat), I W T → Only X W W' → Disj T X → (∀ q ∈ T, q < W.heap.size) → I W' T)
    (CH : ∀ (W : World) (T : List Nat), I W T → (∀ q ∈ T, q < W.heap.size) → ∀ (at_ fr st : Int) (p : Option Addr) (n c : Nat) (l : List Int), 0 ≤ at_ → at_ ≤ 5 → Ints W p n c l → l.length = blen (at_ / 2).toNat → (∀ v ∈ l, 0 ≤ v ∧ v ≤ a.P - 1) → (∀ q ∈ foot p c, w.heap.size ≤ q ∧ q < W.heap.size) →
      Calls Tryd.prog fid (#[.int .i64 at_, .agg #[.int .i64 fr, .int .i64 st, .slice p n c]] ++ caps) W fun e W' => ∃ p' n' c', e = .returned (.agg #[.int .i64 (chg at_ (fr, st, l)).1, .int .i64 (chg at_ (fr, st, l)).2.1, .slice p' n' c']) ∧ Ints W' p' n' c' (chg at_ (fr, st, l)).2.2 ∧ Only F0 W W' ∧ ∃ T', I W' T' ∧ ∀ q ∈ T', q < W'.heap.size ∧ (q ∈ T ∨ q ∈ foot p c ∨ W.heap.size ≤ q)) :
    Calls Tryd.prog 84 #[.agg #[.int .i64 a.P, .int .i64 a.party, .int .i64 a.input, .int .i64 a.mask, .int .i64 a.delta, .slice x.sa x.sn x.sc, .slice x.ka x.kn x.kc, .int .i64 a.step, .slice x.ha x.hn x.hc, .int .i64 a.status, .int .i64 a.out], .agg #[.int .i64 b.P, .int .i64 b.party, .int .i64 b.input, .int .i64 b.mask, .int .i64 b.delta, .slice z.sa z.sn z.sc, .slice z.ka z.kn z.kc, .int .i64 b.step, .slice z.ha z.hn z.hc, .int .i64 b.status, .int .i64 b.out], .func (.func fid) #[] caps] w fun e w' => ∃ y F y' F' p n c G, e = .returned (.tuple #[.agg #[.int .i64 (runP chg 3 a b []).1.P, .int .i64 (runP chg 3 a b []).1.party, .int .i64 (runP chg 3 a b []).1.input, .int .i64 (runP chg 3 a b []).1.mask, .int .i64 (runP chg 3 a b []).1.delta, .slice y.sa y.sn y.sc, .slice y.ka y.kn y.kc, .int .i64 (runP chg 3 a b []).1.step, .slice y.ha y.hn y.hc, .int .i64 (runP chg 3 a b []).1.status, .int .i64 (runP chg 3 a b []).1.out], .agg #[.int .i64 (runP chg 3 a b []).2.1.P, .int .i64 (runP chg 3 a b []).2.1.party, .int .i64 (runP chg 3 a b []).2.1.input, .int .i64 (runP chg 3 a b []).2.1.mask, .int .i64 (runP chg 3 a b []).2.1.delta, .slice y'.sa y'.sn y'.sc, .slice y'.ka y'.kn y'.kc, .int .i64 (runP chg 3 a b []).2.1.step, .slice y'.ha y'.hn y'.hc, .int .i64 (runP chg 3 a b []).2.1.status, .int .i64 (runP chg 3 a b []).2.1.out], .slice p n c]) ∧
      PlO w' w.heap.size y (runP chg 3 a b []).1.shares (runP chg 3 a b []).1.keys (runP chg 3 a b []).1.heard F ∧ PlO w' w.heap.size y' (runP chg 3 a b []).2.1.shares (runP chg 3 a b []).2.1.keys (runP chg 3 a b []).2.1.heard F' ∧ MsO w' w.heap.size p n c (runP chg 3 a b []).2.2 G ∧ Disj F F' ∧ Disj F G ∧ Disj F' G ∧ Only F0 w w' ∧ ∃ T, I w' T ∧ ∀ q ∈ T, q < w'.heap.size := by
  have CA := Lib.hid (fun (W : World) (h2 : PlR W x a.shares a.keys a.heard) => copyPlayer_any a x W h2 hR.an)
  have CB := Lib.hid (fun (W : World) (h2 : PlR W z b.shares b.keys b.heard) => copyPlayer_any b z W h2 hR.bn)
  have LC := Lib.hid CH
  have LI := Lib.hid hI
  have LIS := Lib.hid IS
  have LR := Lib.hid hR
  have LP := Lib.hid hP
  have LH := Lib.hid h
  have LH' := Lib.hid h'
  have LX := Lib.hid hT
  have LF := Lib.hid hF0
  have LT0 := Lib.hid hT0
  obtain ⟨RP, hRP⟩ : ∃ r, runP chg 3 a b [] = r := ⟨_, rfl⟩
  rw [hRP]
  replace hRP := Lib.hid hRP
  clear h h' hT CH hR hP hI IS hF0 hT0
  go_enter Tryd.func84, Tryd.ntmps84
  go_upto_region 1 with fail
  refine Exists.elim (Blk.new_ w (b := w.heap.size) rfl 31 #[.int .i64 a.P, .int .i64 a.party, .int .i64 a.input, .int .i64 a.mask, .int .i64 a.delta, .slice x.sa x.sn x.sc, .slice x.ka x.kn x.kc, .int .i64 a.step, .slice x.ha x.hn x.hc, .int .i64 a.status, .int .i64 a.out]) (fun w1_a0' q => ?_)
  rw [q.1]; have B_a := q.2.1; have s_w1_a0' := q.2.2.1; have u_w1_a0' := q.2.2.2; clear q
  refine Exists.elim (Blk.new_ w1_a0' (b := w.heap.size + 1) s_w1_a0' 31 #[.int .i64 b.P, .int .i64 b.party, .int .i64 b.input, .int .i64 b.mask, .int .i64 b.delta, .slice z.sa z.sn z.sc, .slice z.ka z.kn z.kc, .int .i64 b.step, .slice z.ha z.hn z.hc, .int .i64 b.status, .int .i64 b.out]) (fun w1_a1' q => ?_)
  rw [q.1]; have B_b := q.2.1; have s_w1_a1' := q.2.2.1; have u_w1_a1' := q.2.2.2; clear q
  refine Exists.elim (Blk.new_ w1_a1' (b := w.heap.size + 2) s_w1_a1' 31 #[.int .i64 0, .int .i64 0, .int .i64 0, .int .i64 0, .int .i64 0, .slice none 0 0, .slice none 0 0, .int .i64 0, .slice none 0 0, .int .i64 0, .int .i64 0]) (fun w1_a2' q => ?_)
  rw [q.1]; have B_r := q.2.1; have s_w1_a2' := q.2.2.1; have u_w1_a2' := q.2.2.2; clear q
  refine Exists.elim (Blk.new_ w1_a2' (b := w.heap.size + 3) s_w1_a2' 31 #[.int .i64 0, .int .i64 0, .int .i64 0, .int .i64 0, .int .i64 0, .slice none 0 0, .slice none 0 0, .int .i64 0, .slice none 0 0, .int .i64 0, .int .i64 0]) (fun w1' q => ?_)
  rw [q.1]; have B_q := q.2.1; have s_w1' := q.2.2.1; have u_w1' := q.2.2.2; clear q
  replace B_a := (((B_a.below u_w1_a1').below u_w1_a2').below u_w1')
  replace B_b := ((B_b.below u_w1_a2').below u_w1')
  replace B_r := (B_r.below u_w1')
  have U := (u_w1_a0'.trans ((u_w1_a1'.trans ((u_w1_a2'.trans (u_w1'.mono u_w1_a2'.size)).mono u_w1_a1'.size)).mono u_w1_a0'.size))
  have S_w1' : w.heap.size + 4 ≤ w1'.heap.size := Nat.le_of_eq s_w1'.symm
  have V_w1' := (Below.refl w.heap.size w).trans (U.mono ((Below.refl w.heap.size w)).size)
  clear u_w1_a0' u_w1_a1' u_w1_a2' u_w1' s_w1_a0' s_w1_a1' s_w1_a2' s_w1' U
  try rw [show w.heap.size + 1 + 1 + 1 = w.heap.size + 3 from rfl]
  try rw [show w.heap.size + 1 + 1 = w.heap.size + 2 from rfl]
  refine wp_region_noPanic ?_
  refine wp_region_held_drew (S := (fun _ => True)) (by kernel_rfl) ?hS1 (fun hHeld => ?go1)
  case hS1 => trivial
  rotate_left 1
  refine wpAnyH_inv [0, 1, 2, 3] #[false, false, false, false, false, false] #[true, true, true, true, false, false] 6 2 (fun (a0J : Act) (lJ : Array Bool) (aJ : Act) (wJ : World) => ∃ dJ : RunAD, lJ = #[dJ.l0, dJ.l1, dJ.l2, dJ.l3, false, false] ∧ aJ = ((((a0J.put (some 13) dJ.v0).put (some 14) dJ.v1).put (some 15) dJ.v2).put (some 16) dJ.v3) ∧ RunAF w1' a b x z dJ.l0 dJ.l1 dJ.l2 dJ.l3 dJ.v0 dJ.v1 dJ.v2 dJ.v3 dJ.ya dJ.Fa dJ.yb dJ.Fb wJ) (by kernel_rfl) (by kernel_rfl) (by kernel_rfl) (by kernel_rfl) (by kernel_rfl) ?hJ hHeld ?hi ?hs ?he
  case hJ => rintro lJ aJ wJ ⟨dJ, rfl, _⟩; exact ⟨[dJ.l0, dJ.l1, dJ.l2, dJ.l3], rfl, rfl⟩
  case hi => exact ⟨⟨false, false, false, false, _, _, _, _, zeroX, [], zeroX, []⟩, rfl, (Act.selfs (Act.selfs (Act.selfs (Act.selfs rfl 13) 14) 15) 16), ⟨(Below.refl _ _).drew, fun q0 => (by cases q0), fun q0 => (by cases q0), fun q0 => (by cases q0), fun q0 => (by cases q0), fun q0 => (by cases q0), fun q0 => (by cases q0), fun q0 => (by cases q0), fun q0 => (by cases q0), fun q0 => (by cases q0), fun q0 => (by cases q0), fun q0 q1 => (by cases q0)⟩⟩
  case hs =>
    refine StepsI.cons (o := ⟨some 13, _, _, _, _, _⟩) rfl ?_ ?_
    · intro lJ aJ wi K hS hJ hz0 hd hK
      obtain ⟨dJ, hJ⟩ := hJ
      obtain ⟨e1, hJ⟩ := hJ
      obtain ⟨e2, hF⟩ := hJ
      subst e1
      subst e2
      cases dJ with | mk l0 l1 l2 l3 v0 v1 v2 v3 ya Fa yb Fb =>
      replace hF : RunAF w1' a b x z l0 l1 l2 l3 v0 v1 v2 v3 ya Fa yb Fb wi := hF
      have U := hF.U
      have k1_0 := hF.k1_0
      have k3_1 := hF.k3_1
      have k3_2 := hF.k3_2
      have k3_0 := hF.k3_0
      have g0 := hF.g0
      have g2 := hF.g2
      have g1 := hF.g1
      have g3 := hF.g3
      have oa := hF.oa
      have ob := hF.ob
      have DD := hF.DD
      clear hF
      have e0 : l0 = false := hz0; subst e0
      clear hz0 hd
      (try simp only [Act.put, List.setIfInBounds_toArray, List.set_cons_zero, List.set_cons_succ])
      replace g0 := Lib.hid g0
      replace g1 := Lib.hid g1
      replace g2 := Lib.hid g2
      replace g3 := Lib.hid g3
      replace k1_0 := Lib.hid k1_0
      replace k3_0 := Lib.hid k3_0
      replace k3_1 := Lib.hid k3_1
      replace k3_2 := Lib.hid k3_2
      have B_i := B_a.below U
      have cl0 := B_i.all11
      go_simp
      clear B_i cl0
      exact hK.out _ _ trivial ⟨⟨true, l1, l2, l3, .agg #[.int .i64 a.P, .int .i64 a.party, .int .i64 a.input, .int .i64 a.mask, .int .i64 a.delta, .slice x.sa x.sn x.sc, .slice x.ka x.kn x.kc, .int .i64 a.step, .slice x.ha x.hn x.hc, .int .i64 a.status, .int .i64 a.out], v1, v2, v3, ya, Fa, yb, Fb⟩, rfl, by kernel_rfl, (show RunAF w1' a b x z true l1 l2 l3 (.agg #[.int .i64 a.P, .int .i64 a.party, .int .i64 a.input, .int .i64 a.mask, .int .i64 a.delta, .slice x.sa x.sn x.sc, .slice x.ka x.kn x.kc, .int .i64 a.step, .slice x.ha x.hn x.hc, .int .i64 a.status, .int .i64 a.out]) v1 v2 v3 ya Fa yb Fb wi from ⟨(U), (fun nd1 => (by cases k1_0.out nd1)), (fun nd3 => (by cases k3_0.out nd3)), (fun nd3 => (by cases k3_0.out nd3)), (fun nd3 => (by cases k3_0.out nd3)), (fun nd0 => rfl), (fun nd2 => (g2.out nd2)), (fun nd1 => (by cases k1_0.out nd1)), (fun nd3 => (by cases k3_0.out nd3)), (fun nd1 => (by cases k1_0.out nd1)), (fun nd3 => (by cases k3_0.out nd3)), (fun nd1 nd3 => (by cases k1_0.out nd1))⟩)⟩
    refine StepsI.cons (o := ⟨some 14, _, _, _, _, _⟩) rfl ?_ ?_
    · intro lJ aJ wi K hS hJ hz0 hd hK
      obtain ⟨dJ, hJ⟩ := hJ
      obtain ⟨e1, hJ⟩ := hJ
      obtain ⟨e2, hF⟩ := hJ
      subst e1
      subst e2
      cases dJ with | mk l0 l1 l2 l3 v0 v1 v2 v3 ya Fa yb Fb =>
      replace hF : RunAF w1' a b x z l0 l1 l2 l3 v0 v1 v2 v3 ya Fa yb Fb wi := hF
      have U := hF.U
      have k1_0 := hF.k1_0
      have k3_1 := hF.k3_1
      have k3_2 := hF.k3_2
      have k3_0 := hF.k3_0
      have g0 := hF.g0
      have g2 := hF.g2
      have g1 := hF.g1
      have g3 := hF.g3
      have oa := hF.oa
      have ob := hF.ob
      have DD := hF.DD
      clear hF
      have e0 : l1 = false := hz0; subst e0
      have e0 : l0 = true := hd 0 (by kernel_rfl); subst e0
      clear hz0 hd
      (try simp only [Act.put, List.setIfInBounds_toArray, List.set_cons_zero, List.set_cons_succ])
      have g' := g0 rfl; subst g'
      replace g0 := Lib.hid g0
      replace g1 := Lib.hid g1
      replace g2 := Lib.hid g2
      replace g3 := Lib.hid g3
      replace k1_0 := Lib.hid k1_0
      replace k3_0 := Lib.hid k3_0
      replace k3_1 := Lib.hid k3_1
      replace k3_2 := Lib.hid k3_2
      go_simp
      refine (CA.out _ (LH.out.below (V_w1'.trans (U.mono V_w1'.size)))).mono ?_
      rintro e wo ⟨ya', Fa', rfl, n1, u⟩
      exact hK.out _ _ trivial ⟨⟨true, true, l2, l3, .agg #[.int .i64 a.P, .int .i64 a.party, .int .i64 a.input, .int .i64 a.mask, .int .i64 a.delta, .slice x.sa x.sn x.sc, .slice x.ka x.kn x.kc, .int .i64 a.step, .slice x.ha x.hn x.hc, .int .i64 a.status, .int .i64 a.out], .agg #[.int .i64 a.P, .int .i64 a.party, .int .i64 a.input, .int .i64 a.mask, .int .i64 a.delta, .slice ya'.sa ya'.sn ya'.sc, .slice ya'.ka ya'.kn ya'.kc, .int .i64 a.step, .slice ya'.ha ya'.hn ya'.hc, .int .i64 a.status, .int .i64 a.out], v2, v3, ya', Fa', yb, Fb⟩, rfl, by kernel_rfl, (show RunAF w1' a b x z true true l2 l3 (.agg #[.int .i64 a.P, .int .i64 a.party, .int .i64 a.input, .int .i64 a.mask, .int .i64 a.delta, .slice x.sa x.sn x.sc, .slice x.ka x.kn x.kc, .int .i64 a.step, .slice x.ha x.hn x.hc, .int .i64 a.status, .int .i64 a.out]) (.agg #[.int .i64 a.P, .int .i64 a.party, .int .i64 a.input, .int .i64 a.mask, .int .i64 a.delta, .slice ya'.sa ya'.sn ya'.sc, .slice ya'.ka ya'.kn ya'.kc, .int .i64 a.step, .slice ya'.ha ya'.hn ya'.hc, .int .i64 a.status, .int .i64 a.out]) v2 v3 ya' Fa' yb Fb wo from ⟨((U).trans (u.mono (U).size)), (fun nd1 => rfl), (fun nd3 => (by cases k3_1.out nd3)), (fun nd3 => (by cases k3_1.out nd3)), (fun nd3 => (by cases k3_1.out nd3)), (fun nd0 => (g0.out nd0)), (fun nd2 => (g2.out nd2)), (fun nd1 => rfl), (fun nd3 => (by cases k3_1.out nd3)), (fun nd1 => n1.lower U.size), (fun nd3 => (by cases k3_1.out nd3)), (fun nd1 nd3 => (by cases k3_1.out nd3))⟩)⟩
    refine StepsI.cons (o := ⟨some 15, _, _, _, _, _⟩) rfl ?_ ?_
    · intro lJ aJ wi K hS hJ hz0 hd hK
      obtain ⟨dJ, hJ⟩ := hJ
      obtain ⟨e1, hJ⟩ := hJ
      obtain ⟨e2, hF⟩ := hJ
      subst e1
      subst e2
      cases dJ with | mk l0 l1 l2 l3 v0 v1 v2 v3 ya Fa yb Fb =>
      replace hF : RunAF w1' a b x z l0 l1 l2 l3 v0 v1 v2 v3 ya Fa yb Fb wi := hF
      have U := hF.U
      have k1_0 := hF.k1_0
      have k3_1 := hF.k3_1
      have k3_2 := hF.k3_2
      have k3_0 := hF.k3_0
      have g0 := hF.g0
      have g2 := hF.g2
      have g1 := hF.g1
      have g3 := hF.g3
      have oa := hF.oa
      have ob := hF.ob
      have DD := hF.DD
      clear hF
      have e0 : l2 = false := hz0; subst e0
      clear hz0 hd
      (try simp only [Act.put, List.setIfInBounds_toArray, List.set_cons_zero, List.set_cons_succ])
      replace g0 := Lib.hid g0
      replace g1 := Lib.hid g1
      replace g2 := Lib.hid g2
      replace g3 := Lib.hid g3
      replace k1_0 := Lib.hid k1_0
      replace k3_0 := Lib.hid k3_0
      replace k3_1 := Lib.hid k3_1
      replace k3_2 := Lib.hid k3_2
      have B_i := B_b.below U
      have cl0 := B_i.all11
      go_simp
      clear B_i cl0
      exact hK.out _ _ trivial ⟨⟨l0, l1, true, l3, v0, v1, .agg #[.int .i64 b.P, .int .i64 b.party, .int .i64 b.input, .int .i64 b.mask, .int .i64 b.delta, .slice z.sa z.sn z.sc, .slice z.ka z.kn z.kc, .int .i64 b.step, .slice z.ha z.hn z.hc, .int .i64 b.status, .int .i64 b.out], v3, ya, Fa, yb, Fb⟩, rfl, by kernel_rfl, (show RunAF w1' a b x z l0 l1 true l3 v0 v1 (.agg #[.int .i64 b.P, .int .i64 b.party, .int .i64 b.input, .int .i64 b.mask, .int .i64 b.delta, .slice z.sa z.sn z.sc, .slice z.ka z.kn z.kc, .int .i64 b.step, .slice z.ha z.hn z.hc, .int .i64 b.status, .int .i64 b.out]) v3 ya Fa yb Fb wi from ⟨(U), (fun nd1 => (k1_0.out nd1)), (fun nd3 => (by cases k3_2.out nd3)), (fun nd3 => (by cases k3_2.out nd3)), (fun nd3 => (by cases k3_2.out nd3)), (fun nd0 => (g0.out nd0)), (fun nd2 => rfl), (fun nd1 => (g1.out nd1)), (fun nd3 => (by cases k3_2.out nd3)), (fun nd1 => (oa nd1)), (fun nd3 => (by cases k3_2.out nd3)), (fun nd1 nd3 => (by cases k3_2.out nd3))⟩)⟩
    refine StepsI.cons (o := ⟨some 16, _, _, _, _, _⟩) rfl ?_ ?_
    · intro lJ aJ wi K hS hJ hz0 hd hK
      obtain ⟨dJ, hJ⟩ := hJ
      obtain ⟨e1, hJ⟩ := hJ
      obtain ⟨e2, hF⟩ := hJ
      subst e1
      subst e2
      cases dJ with | mk l0 l1 l2 l3 v0 v1 v2 v3 ya Fa yb Fb =>
      replace hF : RunAF w1' a b x z l0 l1 l2 l3 v0 v1 v2 v3 ya Fa yb Fb wi := hF
      have U := hF.U
      have k1_0 := hF.k1_0
      have k3_1 := hF.k3_1
      have k3_2 := hF.k3_2
      have k3_0 := hF.k3_0
      have g0 := hF.g0
      have g2 := hF.g2
      have g1 := hF.g1
      have g3 := hF.g3
      have oa := hF.oa
      have ob := hF.ob
      have DD := hF.DD
      clear hF
      have e0 : l3 = false := hz0; subst e0
      have e1 : l1 = true := hd 1 (by kernel_rfl); subst e1
      have e2 : l2 = true := hd 2 (by kernel_rfl); subst e2
      have e0 : l0 = true := k1_0 rfl; subst e0
      clear hz0 hd
      (try simp only [Act.put, List.setIfInBounds_toArray, List.set_cons_zero, List.set_cons_succ])
      have g' := g2 rfl; subst g'
      replace g0 := Lib.hid g0
      replace g1 := Lib.hid g1
      replace g2 := Lib.hid g2
      replace g3 := Lib.hid g3
      replace k1_0 := Lib.hid k1_0
      replace k3_0 := Lib.hid k3_0
      replace k3_1 := Lib.hid k3_1
      replace k3_2 := Lib.hid k3_2
      go_simp
      refine (CB.out _ (LH'.out.below (V_w1'.trans (U.mono V_w1'.size)))).mono ?_
      rintro e wo ⟨yb', Fb', rfl, n1, u⟩
      exact hK.out _ _ trivial ⟨⟨true, true, true, true, v0, v1, .agg #[.int .i64 b.P, .int .i64 b.party, .int .i64 b.input, .int .i64 b.mask, .int .i64 b.delta, .slice z.sa z.sn z.sc, .slice z.ka z.kn z.kc, .int .i64 b.step, .slice z.ha z.hn z.hc, .int .i64 b.status, .int .i64 b.out], .agg #[.int .i64 b.P, .int .i64 b.party, .int .i64 b.input, .int .i64 b.mask, .int .i64 b.delta, .slice yb'.sa yb'.sn yb'.sc, .slice yb'.ka yb'.kn yb'.kc, .int .i64 b.step, .slice yb'.ha yb'.hn yb'.hc, .int .i64 b.status, .int .i64 b.out], ya, Fa, yb', Fb'⟩, rfl, by kernel_rfl, (show RunAF w1' a b x z true true true true v0 v1 (.agg #[.int .i64 b.P, .int .i64 b.party, .int .i64 b.input, .int .i64 b.mask, .int .i64 b.delta, .slice z.sa z.sn z.sc, .slice z.ka z.kn z.kc, .int .i64 b.step, .slice z.ha z.hn z.hc, .int .i64 b.status, .int .i64 b.out]) (.agg #[.int .i64 b.P, .int .i64 b.party, .int .i64 b.input, .int .i64 b.mask, .int .i64 b.delta, .slice yb'.sa yb'.sn yb'.sc, .slice yb'.ka yb'.kn yb'.kc, .int .i64 b.step, .slice yb'.ha yb'.hn yb'.hc, .int .i64 b.status, .int .i64 b.out]) ya Fa yb' Fb' wo from ⟨((U).trans (u.mono (U).size)), (fun nd1 => (k1_0.out nd1)), (fun nd3 => rfl), (fun nd3 => rfl), (fun nd3 => rfl), (fun nd0 => (g0.out nd0)), (fun nd2 => (g2.out nd2)), (fun nd1 => (g1.out nd1)), (fun nd3 => rfl), (fun nd1 => ((oa nd1)).below u), (fun nd3 => n1.lower U.size), (fun nd1 nd3 => fun q hq hq' => by have := (oa rfl).feet q hq; have := n1.feet q hq'; omega)⟩)⟩
    exact StepsI.nil
  case he =>
    intro aJ wc hS hJ
    obtain ⟨dJ, hJ⟩ := hJ
    obtain ⟨hl, hJ⟩ := hJ
    obtain ⟨e2, hF⟩ := hJ
    subst e2
    cases dJ with | mk l0 l1 l2 l3 v0 v1 v2 v3 ya Fa yb Fb =>
    replace hF : RunAF w1' a b x z l0 l1 l2 l3 v0 v1 v2 v3 ya Fa yb Fb wc := hF
    have U := hF.U
    have k1_0 := hF.k1_0
    have k3_1 := hF.k3_1
    have k3_2 := hF.k3_2
    have k3_0 := hF.k3_0
    have g0 := hF.g0
    have g2 := hF.g2
    have g1 := hF.g1
    have g3 := hF.g3
    have oa := hF.oa
    have ob := hF.ob
    have DD := hF.DD
    clear hF
    have e0 : true = l0 := congrArg (fun q : Array Bool => q.getD 0 true) hl; subst e0
    have e1 : true = l1 := congrArg (fun q : Array Bool => q.getD 1 true) hl; subst e1
    have e2 : true = l2 := congrArg (fun q : Array Bool => q.getD 2 true) hl; subst e2
    have e3 : true = l3 := congrArg (fun q : Array Bool => q.getD 3 true) hl; subst e3
    clear hl k1_0 k3_1 k3_2 k3_0
    replace g0 := g0 rfl
    replace g2 := g2 rfl
    replace g1 := g1 rfl
    replace g3 := g3 rfl
    replace oa := oa rfl
    replace ob := ob rfl
    replace DD := DD rfl rfl
    have hHeld := hS; clear hS
    (try simp only [Act.put, List.setIfInBounds_toArray, List.set_cons_zero, List.set_cons_succ])
    subst g0 g1 g2 g3
    replace B_a := B_a.below U
    replace B_b := B_b.below U
    replace B_r := B_r.below U
    replace B_q := B_q.below U
    have Q_oa := Lib.hid oa.feet
    have Q_ob := Lib.hid ob.feet
    have SU := U.size
    have G_all : Only [w.heap.size, w.heap.size + 1] wc wc := Only.refl _ _
    refine wpAnyH_ready (rs := [4]) (by kernel_rfl) (by simp) ?_
    refine AllReadyH.cons (o := ⟨none, _, _, _, _, _⟩) rfl (fun K hK => ?_) ?_
    refine step_st B_a (by simp [Region.wanted]) _ _ _ (by rfl) (by rfl) (by rfl) (by kernel_rfl) (by rfl) (by simp [Value.oneCell']) ?_
    intro wS4 B_a' G
    replace B_a := B_a'; clear B_a'
    replace B_b := B_b.only G (by first | (simp; done) | (simp; omega))
    replace B_r := B_r.only G (by first | (simp; done) | (simp; omega))
    replace B_q := B_q.only G (by first | (simp; done) | (simp; omega))
    replace oa := oa.only G (fun q hq hq' => by have := Q_oa.out q hq; simp at hq'; omega)
    replace ob := ob.only G (fun q hq hq' => by have := Q_ob.out q hq; simp at hq'; omega)
    replace G_all := G_all.trans (G.more (F' := [w.heap.size, w.heap.size + 1]) (by simp))
    clear G
    refine hK.out _ _ trivial (fun hHeld => ?_)
    clear hK K
    (try simp only [pt_])
    refine wpAnyH_ready (rs := [5]) (by kernel_rfl) (by simp) ?_
    refine AllReadyH.cons (o := ⟨none, _, _, _, _, _⟩) rfl (fun K hK => ?_) ?_
    refine step_st B_b (by simp [Region.wanted]) _ _ _ (by rfl) (by rfl) (by rfl) (by kernel_rfl) (by rfl) (by simp [Value.oneCell']) ?_
    intro wS5 B_b' G
    replace B_b := B_b'; clear B_b'
    replace B_a := B_a.only G (by first | (simp; done) | (simp; omega))
    replace B_r := B_r.only G (by first | (simp; done) | (simp; omega))
    replace B_q := B_q.only G (by first | (simp; done) | (simp; omega))
    replace oa := oa.only G (fun q hq hq' => by have := Q_oa.out q hq; simp at hq'; omega)
    replace ob := ob.only G (fun q hq hq' => by have := Q_ob.out q hq; simp at hq'; omega)
    replace G_all := G_all.trans (G.more (F' := [w.heap.size, w.heap.size + 1]) (by simp))
    clear G
    refine hK.out _ _ trivial (fun hHeld => ?_)
    clear hK K
    (try simp only [pt_])
    refine wpAnyH_done (by kernel_rfl) ?_ _
    refine NoPanic.normal ?_
    rotate_left 1
    exact AllReadyH.nil
    exact AllReadyH.nil
    have V_wA : Below w.heap.size w wS5 := (V_w1'.trans (U.mono V_w1'.size)).trans (G_all.below (by omega) (by intro k hk; simp at hk; omega))
    have S_wA : w.heap.size + 4 ≤ wS5.heap.size := by have := G_all.size; omega
    clear G_all U SU
    replace oa := oa.lower (b' := w.heap.size + 4) (by omega)
    replace ob := ob.lower (b' := w.heap.size + 4) (by omega)
    have Q_oa := Lib.hid oa.feet
    have Q_ob := Lib.hid ob.feet
    try go_wp2_with fail
    refine Exists.elim (Blk.new_ wS5 (b := wS5.heap.size) rfl 44 #[]) (fun w2' q => ?_)
    rw [q.1]; have B_e := q.2.1; have s_w2' := q.2.2.1; have u_w2' := q.2.2.2; clear q
    replace B_a := B_a.below u_w2'
    replace B_b := B_b.below u_w2'
    replace B_r := B_r.below u_w2'
    replace B_q := B_q.below u_w2'
    replace oa := oa.below u_w2'
    replace ob := ob.below u_w2'
    have S_w2' : wS5.heap.size + 1 ≤ w2'.heap.size := Nat.le_of_eq s_w2'.symm
    have V_w2' := V_wA.trans (u_w2'.mono (V_wA).size)
    clear u_w2' s_w2' V_wA
    clear B_e
    have om := MsO.nil w2' (w.heap.size + 4) (some ⟨wS5.heap.size, 0, none⟩)
    have LV : Hid (Only F0 w w2') := Lib.hid (Only.of_below V_w2')
    have SZ : w.heap.size + 4 ≤ w2'.heap.size := by omega
    have LI2 := Lib.hid (LIS.out w w2' T0 [] LI.out (Only.of_below V_w2') (fun q hq hq' => by simp at hq') LT0.out)
    go_loopw [9, 18] (fun u v wr => ∃ d : RunLD, v = .int .i64 d.k ∧ u = .slice d.p (2 * d.k) d.c ∧ RunLF chg I F0 RP a.P w d.k d.s d.t d.D d.xs d.ys d.Fa d.Fb d.p d.c d.Fm d.Ti wr) (fun _ v _ => 3 - (intOf v).toNat)
    case atStart => exact ⟨⟨0, a, b, [], ya, yb, Fa, Fb, some ⟨wS5.heap.size, 0, none⟩, 0, [], T0⟩, rfl, rfl, (show RunLF chg I F0 RP a.P w 0 a b [] ya yb Fa Fb (some ⟨wS5.heap.size, 0, none⟩) 0 [] T0 w2' from ⟨by omega, LV.out, B_r, B_q, SZ, rfl, B_a, B_b, oa, ob, om, DD, Disj.nil_r _, Disj.nil_r _, fun _ => LR.out, rfl, LP.out.symm, hRP.out.symm, LI2.out, fun q hq => ⟨by have := LT0.out q hq; omega, Or.inl (LT0.out q hq)⟩, by rw [foot_zero]; exact Disj.nil_r _⟩)⟩
    case round =>
      obtain ⟨⟨k, s, t, D, xs, ys, Fa, Fb, p, c, Fm, Ti⟩, rfl, rfl, hL⟩ := hrel
      replace hL : RunLF chg I F0 RP a.P w k s t D xs ys Fa Fb p c Fm Ti wr := hL
      obtain ⟨hk, V_wr, B_r, B_q, SZr, hDl, B_a, B_b, oa, ob, om, dab, dam, dbm, hS, hsP, htP, hRP2, hIT, hTl, hTp⟩ := hL
      obtain ⟨N, hN⟩ : ∃ N, N = 2 * k := ⟨_, rfl⟩
      rw [← hN] at om hDl
      rw [← hN]
      replace hN := Lib.hid hN
      replace hRP2 := Lib.hid hRP2
      replace hDl := Lib.hid hDl
      replace hsP := Lib.hid hsP
      replace htP := Lib.hid htP
      replace hTl := Lib.hid hTl
      replace hTp := Lib.hid hTp
      replace hIT := Lib.hid hIT
      replace V_wr := Lib.hid V_wr
      by_cases hlt : k < 3
      · have LRS := Lib.hid (hS hlt)
        clear hS
        have hlt' : (k : Int) < 3 := by omega
        have CBa := Lib.hid (fun (W : World) (h2 : PlR W xs s.shares s.keys s.heard) => body_any s xs W h2 LRS.out.an (by have := LRS.out.sa; omega))
        have CBb := Lib.hid (fun (W : World) (h2 : PlR W ys t.shares t.keys t.heard) => body_any t ys W h2 LRS.out.bn (by have := LRS.out.sb; omega))
        have Q_oa := Lib.hid oa.feet
        have Q_ob := Lib.hid ob.feet
        have Q_om := Lib.hid om.feet
        go_upto_region 5 with fail
        replace B_a := Blk.drew B_a
        replace B_b := Blk.drew B_b
        refine wp_region_noPanic ?_
        refine wp_region_held_drew (S := (fun W => Blk W (w.heap.size) 31 #[.int .i64 s.P, .int .i64 s.party, .int .i64 s.input, .int .i64 s.mask, .int .i64 s.delta, .slice xs.sa xs.sn xs.sc, .slice xs.ka xs.kn xs.kc, .int .i64 s.step, .slice xs.ha xs.hn xs.hc, .int .i64 s.status, .int .i64 s.out] ∧ Blk W (w.heap.size + 1) 31 #[.int .i64 t.P, .int .i64 t.party, .int .i64 t.input, .int .i64 t.mask, .int .i64 t.delta, .slice ys.sa ys.sn ys.sc, .slice ys.ka ys.kn ys.kc, .int .i64 t.step, .slice ys.ha ys.hn ys.hc, .int .i64 t.status, .int .i64 t.out])) (by kernel_rfl) ?hS2 (fun hHeld => ?go2)
        case hS2 => exact ⟨B_a, B_b⟩
        refine tk (i := 0) (oi := ⟨some 20, _, _, _, _, _⟩) (v := ?v0_3) hHeld rfl ?y0_3 ?r0_3
        case y0_3 => (intro w _; first | (go_simp; first | done | with_reducible rfl) | with_reducible rfl)
        (try simp only [pt_])
        refine tk (i := 1) (oi := ⟨some 21, _, _, _, _, _⟩) (v := ?v1_4) hHeld rfl ?y1_4 ?r1_4
        case y1_4 => (intro w hSw; obtain ⟨qS0, qS1⟩ := hSw; have cS0 := qS0.all11; have cS1 := qS1.all11; first | (go_simp; first | done | with_reducible rfl) | with_reducible rfl)
        (try simp only [pt_])
        refine tk (i := 2) (oi := ⟨some 22, _, _, _, _, _⟩) (v := ?v2_5) hHeld rfl ?y2_5 ?r2_5
        case y2_5 => (intro w hSw; obtain ⟨qS0, qS1⟩ := hSw; have cS0 := qS0.all11; have cS1 := qS1.all11; first | (go_simp; first | done | with_reducible rfl) | with_reducible rfl)
        (try simp only [pt_])
        refine tk (i := 5) (oi := ⟨some 25, _, _, _, _, _⟩) (v := ?v5_6) hHeld rfl ?y5_6 ?r5_6
        case y5_6 => (intro w _; first | (go_simp; first | done | with_reducible rfl) | with_reducible rfl)
        (try simp only [pt_])
        refine tk (i := 6) (oi := ⟨some 26, _, _, _, _, _⟩) (v := ?v6_7) hHeld rfl ?y6_7 ?r6_7
        case y6_7 => (intro w hSw; obtain ⟨qS0, qS1⟩ := hSw; have cS0 := qS0.all11; have cS1 := qS1.all11; first | (go_simp; first | done | with_reducible rfl) | with_reducible rfl)
        (try simp only [pt_])
        refine tk (i := 7) (oi := ⟨some 27, _, _, _, _, _⟩) (v := ?v7_8) hHeld rfl ?y7_8 ?r7_8
        case y7_8 => (intro w hSw; obtain ⟨qS0, qS1⟩ := hSw; have cS0 := qS0.all11; have cS1 := qS1.all11; first | (go_simp; first | done | with_reducible rfl) | with_reducible rfl)
        (try simp only [pt_])
        rotate_left 1
        refine wpAnyH_inv [3, 4, 8, 9, 10, 11, 12] #[true, true, true, false, false, true, true, true, false, false, false, false, false, false] #[true, true, true, true, true, true, true, true, true, true, true, true, true, false] 8 1 (fun (a0J : Act) (lJ : Array Bool) (aJ : Act) (wJ : World) => ∃ dJ : RunBD, lJ = #[true, true, true, dJ.l3, dJ.l4, true, true, true, dJ.l8, dJ.l9, dJ.l10, dJ.l11, dJ.l12, false] ∧ aJ = ((((((a0J.put (some 23) dJ.v3).put (some 24) dJ.v4).put (some 28) dJ.v8).put (some 29) dJ.v9).put (some 10) dJ.v10).put (some 11) dJ.v11) ∧ RunBF wr s t dJ.l3 dJ.l4 dJ.l8 dJ.l9 dJ.l10 dJ.l11 dJ.l12 dJ.v3 dJ.v4 dJ.v8 dJ.v9 dJ.v10 dJ.v11 dJ.b1 dJ.c1 dJ.b2 dJ.c2 dJ.bx_m dJ.bx_n wJ) (by kernel_rfl) (by kernel_rfl) (by kernel_rfl) (by kernel_rfl) (by kernel_rfl) ?hJ hHeld ?hi ?hs ?he
        case hJ => rintro lJ aJ wJ ⟨dJ, rfl, _⟩; exact ⟨[dJ.l3, dJ.l4, dJ.l8, dJ.l9, dJ.l10, dJ.l11, dJ.l12], rfl, rfl⟩
        case hi => exact ⟨⟨false, false, false, false, false, false, false, _, _, _, _, _, _, none, 0, none, 0, 0, 0⟩, rfl, (Act.selfs (Act.selfs (Act.selfs (Act.selfs (Act.selfs (Act.selfs rfl 23) 24) 28) 29) 10) 11), ⟨(Below.refl _ _).drew, fun q0 => (by cases q0), fun q0 => (by cases q0), fun q0 => (by cases q0), fun q0 => (by cases q0), fun q0 => (by cases q0), fun q0 => (by cases q0), fun q0 => (by cases q0), fun q0 => (by cases q0), fun q0 => (by cases q0), fun q0 => (by cases q0), fun q0 => (by cases q0), fun q0 => (by cases q0), fun q0 => (by cases q0), fun q0 => (by cases q0), fun q0 => (by cases q0), fun q0 => (by cases q0), fun q0 => (by cases q0), fun q0 => (by cases q0), fun q0 => (by cases q0), fun q0 => (by cases q0), fun q0 q1 => (by cases q0), fun q0 => (by cases q0), fun q0 => (by cases q0), fun q0 q1 => (by cases q0), fun q0 q1 => (by cases q0), fun q0 q1 => (by cases q0), fun q0 q1 => (by cases q0), fun q0 q1 => (by cases q0)⟩⟩
        case hs =>
          refine StepsI.cons (o := ⟨some 23, _, _, _, _, _⟩) rfl ?_ ?_
          · intro lJ aJ wi K hS hJ hz0 hd hK
            obtain ⟨dJ, hJ⟩ := hJ
            obtain ⟨e1, hJ⟩ := hJ
            obtain ⟨e2, hF⟩ := hJ
            subst e1
            subst e2
            cases dJ with | mk l3 l4 l8 l9 l10 l11 l12 v3 v4 v8 v9 v10 v11 b1 c1 b2 c2 bx_m bx_n =>
            replace hF : RunBF wr s t l3 l4 l8 l9 l10 l11 l12 v3 v4 v8 v9 v10 v11 b1 c1 b2 c2 bx_m bx_n wi := hF
            have U := hF.U
            have k4_3 := hF.k4_3
            have k8_3 := hF.k8_3
            have k9_8 := hF.k9_8
            have k9_3 := hF.k9_3
            have k12_3 := hF.k12_3
            have k12_4 := hF.k12_4
            have k12_8 := hF.k12_8
            have k12_10 := hF.k12_10
            have k12_11 := hF.k12_11
            have r3 := hF.r3
            have r4 := hF.r4
            have r8 := hF.r8
            have r9 := hF.r9
            have r10 := hF.r10
            have r11 := hF.r11
            have Bm := hF.Bm
            have Bm2 := hF.Bm2
            have Bn := hF.Bn
            have hb_m := hF.hb_m
            have hb_n := hF.hb_n
            have ne_mn := hF.ne_mn
            have m1 := hF.m1
            have m2 := hF.m2
            have D12 := hF.D12
            have m1m := hF.m1m
            have m1n := hF.m1n
            have m2m := hF.m2m
            have m2n := hF.m2n
            clear hF
            have e0 : l3 = false := hz0; subst e0
            clear hz0 hd
            have B_a := hS.1
            have B_b := hS.2
            clear hS
            (try simp only [Act.put, List.setIfInBounds_toArray, List.set_cons_zero, List.set_cons_succ])
            replace k12_10 := Lib.hid k12_10
            replace k12_11 := Lib.hid k12_11
            replace k12_3 := Lib.hid k12_3
            replace k12_4 := Lib.hid k12_4
            replace k12_8 := Lib.hid k12_8
            replace k4_3 := Lib.hid k4_3
            replace k8_3 := Lib.hid k8_3
            replace k9_3 := Lib.hid k9_3
            replace k9_8 := Lib.hid k9_8
            replace r10 := Lib.hid r10
            replace r11 := Lib.hid r11
            replace r3 := Lib.hid r3
            replace r4 := Lib.hid r4
            replace r8 := Lib.hid r8
            replace r9 := Lib.hid r9
            go_simp
            refine (CBa.out _ (oa.below U).rd).mono ?_
            rintro e wo ⟨b1', c1', rfl, n1, u⟩
            replace B_a := (B_a).below u
            replace B_b := (B_b).below u
            exact hK.out _ _ ⟨B_a, B_b⟩ ⟨⟨true, l4, l8, l9, l10, l11, l12, .slice b1' (bodyL s).length c1', v4, v8, v9, v10, v11, b1', c1', b2, c2, bx_m, bx_n⟩, rfl, by kernel_rfl, (show RunBF wr s t true l4 l8 l9 l10 l11 l12 (.slice b1' (bodyL s).length c1') v4 v8 v9 v10 v11 b1' c1' b2 c2 bx_m bx_n wo from ⟨((U).trans (u.mono (U).size)), (fun nd4 => (by cases k4_3.out nd4)), (fun nd8 => (by cases k8_3.out nd8)), (fun nd9 => (by cases k9_3.out nd9)), (fun nd9 => (by cases k9_3.out nd9)), (fun nd12 => (by cases k12_3.out nd12)), (fun nd12 => (by cases k12_3.out nd12)), (fun nd12 => (by cases k12_3.out nd12)), (fun nd12 => (by cases k12_3.out nd12)), (fun nd12 => (by cases k12_3.out nd12)), (fun nd3 => rfl), (fun nd4 => (by cases k4_3.out nd4)), (fun nd8 => (by cases k8_3.out nd8)), (fun nd9 => (by cases k9_3.out nd9)), (fun nd10 => (r10.out nd10)), (fun nd11 => (r11.out nd11)), (fun nd10 => fun h => ((Bm nd10) h).below u), (fun nd12 => (by cases k12_3.out nd12)), (fun nd11 => ((Bn nd11)).below u), (fun nd10 => ⟨((hb_m nd10)).1, Nat.lt_of_lt_of_le ((hb_m nd10)).2 u.size⟩), (fun nd11 => ⟨((hb_n nd11)).1, Nat.lt_of_lt_of_le ((hb_n nd11)).2 u.size⟩), (fun nd10 nd11 => (ne_mn nd10 nd11)), (fun nd3 => n1.lower U.size), (fun nd8 => (by cases k8_3.out nd8)), (fun nd3 nd8 => (by cases k8_3.out nd8)), (fun nd3 nd10 => fun hq => by have := n1.feet _ hq; have := (hb_m nd10).2; omega), (fun nd3 nd11 => fun hq => by have := n1.feet _ hq; have := (hb_n nd11).2; omega), (fun nd8 nd10 => (by cases k8_3.out nd8)), (fun nd8 nd11 => (by cases k8_3.out nd8))⟩)⟩
          refine StepsI.cons (o := ⟨some 24, _, _, _, _, _⟩) rfl ?_ ?_
          · intro lJ aJ wi K hS hJ hz0 hd hK
            obtain ⟨dJ, hJ⟩ := hJ
            obtain ⟨e1, hJ⟩ := hJ
            obtain ⟨e2, hF⟩ := hJ
            subst e1
            subst e2
            cases dJ with | mk l3 l4 l8 l9 l10 l11 l12 v3 v4 v8 v9 v10 v11 b1 c1 b2 c2 bx_m bx_n =>
            replace hF : RunBF wr s t l3 l4 l8 l9 l10 l11 l12 v3 v4 v8 v9 v10 v11 b1 c1 b2 c2 bx_m bx_n wi := hF
            have U := hF.U
            have k4_3 := hF.k4_3
            have k8_3 := hF.k8_3
            have k9_8 := hF.k9_8
            have k9_3 := hF.k9_3
            have k12_3 := hF.k12_3
            have k12_4 := hF.k12_4
            have k12_8 := hF.k12_8
            have k12_10 := hF.k12_10
            have k12_11 := hF.k12_11
            have r3 := hF.r3
            have r4 := hF.r4
            have r8 := hF.r8
            have r9 := hF.r9
            have r10 := hF.r10
            have r11 := hF.r11
            have Bm := hF.Bm
            have Bm2 := hF.Bm2
            have Bn := hF.Bn
            have hb_m := hF.hb_m
            have hb_n := hF.hb_n
            have ne_mn := hF.ne_mn
            have m1 := hF.m1
            have m2 := hF.m2
            have D12 := hF.D12
            have m1m := hF.m1m
            have m1n := hF.m1n
            have m2m := hF.m2m
            have m2n := hF.m2n
            clear hF
            have e0 : l4 = false := hz0; subst e0
            have e3 : l3 = true := hd 3 (by kernel_rfl); subst e3
            clear hz0 hd
            have B_a := hS.1
            have B_b := hS.2
            clear hS
            (try simp only [Act.put, List.setIfInBounds_toArray, List.set_cons_zero, List.set_cons_succ])
            have g' := r3 rfl; subst g'
            replace k12_10 := Lib.hid k12_10
            replace k12_11 := Lib.hid k12_11
            replace k12_3 := Lib.hid k12_3
            replace k12_4 := Lib.hid k12_4
            replace k12_8 := Lib.hid k12_8
            replace k4_3 := Lib.hid k4_3
            replace k8_3 := Lib.hid k8_3
            replace k9_3 := Lib.hid k9_3
            replace k9_8 := Lib.hid k9_8
            replace r10 := Lib.hid r10
            replace r11 := Lib.hid r11
            replace r3 := Lib.hid r3
            replace r4 := Lib.hid r4
            replace r8 := Lib.hid r8
            replace r9 := Lib.hid r9
            go_simp
            exact hK.out _ _ ⟨B_a, B_b⟩ ⟨⟨true, true, l8, l9, l10, l11, l12, .slice b1 (bodyL s).length c1, .agg #[.int .i64 0, .int .i64 s.step, .slice b1 (bodyL s).length c1], v8, v9, v10, v11, b1, c1, b2, c2, bx_m, bx_n⟩, rfl, by kernel_rfl, (show RunBF wr s t true true l8 l9 l10 l11 l12 (.slice b1 (bodyL s).length c1) (.agg #[.int .i64 0, .int .i64 s.step, .slice b1 (bodyL s).length c1]) v8 v9 v10 v11 b1 c1 b2 c2 bx_m bx_n wi from ⟨(U), (fun nd4 => rfl), (fun nd8 => (k8_3.out nd8)), (fun nd9 => (k9_8.out nd9)), (fun nd9 => (k9_3.out nd9)), (fun nd12 => (by cases k12_4.out nd12)), (fun nd12 => (by cases k12_4.out nd12)), (fun nd12 => (by cases k12_4.out nd12)), (fun nd12 => (by cases k12_4.out nd12)), (fun nd12 => (by cases k12_4.out nd12)), (fun nd3 => (r3.out nd3)), (fun nd4 => rfl), (fun nd8 => (r8.out nd8)), (fun nd9 => (r9.out nd9)), (fun nd10 => (r10.out nd10)), (fun nd11 => (r11.out nd11)), (fun nd10 => (Bm nd10)), (fun nd12 => (by cases k12_4.out nd12)), (fun nd11 => (Bn nd11)), (fun nd10 => (hb_m nd10)), (fun nd11 => (hb_n nd11)), (fun nd10 nd11 => (ne_mn nd10 nd11)), (fun nd3 => (m1 nd3)), (fun nd8 => (m2 nd8)), (fun nd3 nd8 => (D12 nd3 nd8)), (fun nd3 nd10 => (m1m nd3 nd10)), (fun nd3 nd11 => (m1n nd3 nd11)), (fun nd8 nd10 => (m2m nd8 nd10)), (fun nd8 nd11 => (m2n nd8 nd11))⟩)⟩
          refine StepsI.cons (o := ⟨some 28, _, _, _, _, _⟩) rfl ?_ ?_
          · intro lJ aJ wi K hS hJ hz0 hd hK
            obtain ⟨dJ, hJ⟩ := hJ
            obtain ⟨e1, hJ⟩ := hJ
            obtain ⟨e2, hF⟩ := hJ
            subst e1
            subst e2
            cases dJ with | mk l3 l4 l8 l9 l10 l11 l12 v3 v4 v8 v9 v10 v11 b1 c1 b2 c2 bx_m bx_n =>
            replace hF : RunBF wr s t l3 l4 l8 l9 l10 l11 l12 v3 v4 v8 v9 v10 v11 b1 c1 b2 c2 bx_m bx_n wi := hF
            have U := hF.U
            have k4_3 := hF.k4_3
            have k8_3 := hF.k8_3
            have k9_8 := hF.k9_8
            have k9_3 := hF.k9_3
            have k12_3 := hF.k12_3
            have k12_4 := hF.k12_4
            have k12_8 := hF.k12_8
            have k12_10 := hF.k12_10
            have k12_11 := hF.k12_11
            have r3 := hF.r3
            have r4 := hF.r4
            have r8 := hF.r8
            have r9 := hF.r9
            have r10 := hF.r10
            have r11 := hF.r11
            have Bm := hF.Bm
            have Bm2 := hF.Bm2
            have Bn := hF.Bn
            have hb_m := hF.hb_m
            have hb_n := hF.hb_n
            have ne_mn := hF.ne_mn
            have m1 := hF.m1
            have m2 := hF.m2
            have D12 := hF.D12
            have m1m := hF.m1m
            have m1n := hF.m1n
            have m2m := hF.m2m
            have m2n := hF.m2n
            clear hF
            have e0 : l8 = false := hz0; subst e0
            have e3 : l3 = true := hd 3 (by kernel_rfl); subst e3
            clear hz0 hd
            have B_a := hS.1
            have B_b := hS.2
            clear hS
            (try simp only [Act.put, List.setIfInBounds_toArray, List.set_cons_zero, List.set_cons_succ])
            replace k12_10 := Lib.hid k12_10
            replace k12_11 := Lib.hid k12_11
            replace k12_3 := Lib.hid k12_3
            replace k12_4 := Lib.hid k12_4
            replace k12_8 := Lib.hid k12_8
            replace k4_3 := Lib.hid k4_3
            replace k8_3 := Lib.hid k8_3
            replace k9_3 := Lib.hid k9_3
            replace k9_8 := Lib.hid k9_8
            replace r10 := Lib.hid r10
            replace r11 := Lib.hid r11
            replace r3 := Lib.hid r3
            replace r4 := Lib.hid r4
            replace r8 := Lib.hid r8
            replace r9 := Lib.hid r9
            go_simp
            refine (CBb.out _ (ob.below U).rd).mono ?_
            rintro e wo ⟨b2', c2', rfl, n1, u⟩
            replace B_a := (B_a).below u
            replace B_b := (B_b).below u
            exact hK.out _ _ ⟨B_a, B_b⟩ ⟨⟨true, l4, true, l9, l10, l11, l12, v3, v4, .slice b2' (bodyL t).length c2', v9, v10, v11, b1, c1, b2', c2', bx_m, bx_n⟩, rfl, by kernel_rfl, (show RunBF wr s t true l4 true l9 l10 l11 l12 v3 v4 (.slice b2' (bodyL t).length c2') v9 v10 v11 b1 c1 b2' c2' bx_m bx_n wo from ⟨((U).trans (u.mono (U).size)), (fun nd4 => (k4_3.out nd4)), (fun nd8 => rfl), (fun nd9 => (by cases k9_8.out nd9)), (fun nd9 => (by cases k9_8.out nd9)), (fun nd12 => (by cases k12_8.out nd12)), (fun nd12 => (by cases k12_8.out nd12)), (fun nd12 => (by cases k12_8.out nd12)), (fun nd12 => (by cases k12_8.out nd12)), (fun nd12 => (by cases k12_8.out nd12)), (fun nd3 => (r3.out nd3)), (fun nd4 => (r4.out nd4)), (fun nd8 => rfl), (fun nd9 => (by cases k9_8.out nd9)), (fun nd10 => (r10.out nd10)), (fun nd11 => (r11.out nd11)), (fun nd10 => fun h => ((Bm nd10) h).below u), (fun nd12 => (by cases k12_8.out nd12)), (fun nd11 => ((Bn nd11)).below u), (fun nd10 => ⟨((hb_m nd10)).1, Nat.lt_of_lt_of_le ((hb_m nd10)).2 u.size⟩), (fun nd11 => ⟨((hb_n nd11)).1, Nat.lt_of_lt_of_le ((hb_n nd11)).2 u.size⟩), (fun nd10 nd11 => (ne_mn nd10 nd11)), (fun nd3 => ((m1 nd3)).below u), (fun nd8 => n1.lower U.size), (fun nd3 nd8 => fun q hq hq' => by have := (m1 rfl).feet q hq; have := n1.feet q hq'; omega), (fun nd3 nd10 => (m1m nd3 nd10)), (fun nd3 nd11 => (m1n nd3 nd11)), (fun nd8 nd10 => fun hq => by have := n1.feet _ hq; have := (hb_m nd10).2; omega), (fun nd8 nd11 => fun hq => by have := n1.feet _ hq; have := (hb_n nd11).2; omega)⟩)⟩
          refine StepsI.cons (o := ⟨some 29, _, _, _, _, _⟩) rfl ?_ ?_
          · intro lJ aJ wi K hS hJ hz0 hd hK
            obtain ⟨dJ, hJ⟩ := hJ
            obtain ⟨e1, hJ⟩ := hJ
            obtain ⟨e2, hF⟩ := hJ
            subst e1
            subst e2
            cases dJ with | mk l3 l4 l8 l9 l10 l11 l12 v3 v4 v8 v9 v10 v11 b1 c1 b2 c2 bx_m bx_n =>
            replace hF : RunBF wr s t l3 l4 l8 l9 l10 l11 l12 v3 v4 v8 v9 v10 v11 b1 c1 b2 c2 bx_m bx_n wi := hF
            have U := hF.U
            have k4_3 := hF.k4_3
            have k8_3 := hF.k8_3
            have k9_8 := hF.k9_8
            have k9_3 := hF.k9_3
            have k12_3 := hF.k12_3
            have k12_4 := hF.k12_4
            have k12_8 := hF.k12_8
            have k12_10 := hF.k12_10
            have k12_11 := hF.k12_11
            have r3 := hF.r3
            have r4 := hF.r4
            have r8 := hF.r8
            have r9 := hF.r9
            have r10 := hF.r10
            have r11 := hF.r11
            have Bm := hF.Bm
            have Bm2 := hF.Bm2
            have Bn := hF.Bn
            have hb_m := hF.hb_m
            have hb_n := hF.hb_n
            have ne_mn := hF.ne_mn
            have m1 := hF.m1
            have m2 := hF.m2
            have D12 := hF.D12
            have m1m := hF.m1m
            have m1n := hF.m1n
            have m2m := hF.m2m
            have m2n := hF.m2n
            clear hF
            have e0 : l9 = false := hz0; subst e0
            have e8 : l8 = true := hd 8 (by kernel_rfl); subst e8
            have e3 : l3 = true := k8_3 rfl; subst e3
            clear hz0 hd
            have B_a := hS.1
            have B_b := hS.2
            clear hS
            (try simp only [Act.put, List.setIfInBounds_toArray, List.set_cons_zero, List.set_cons_succ])
            have g' := r8 rfl; subst g'
            replace k12_10 := Lib.hid k12_10
            replace k12_11 := Lib.hid k12_11
            replace k12_3 := Lib.hid k12_3
            replace k12_4 := Lib.hid k12_4
            replace k12_8 := Lib.hid k12_8
            replace k4_3 := Lib.hid k4_3
            replace k8_3 := Lib.hid k8_3
            replace k9_3 := Lib.hid k9_3
            replace k9_8 := Lib.hid k9_8
            replace r10 := Lib.hid r10
            replace r11 := Lib.hid r11
            replace r3 := Lib.hid r3
            replace r4 := Lib.hid r4
            replace r8 := Lib.hid r8
            replace r9 := Lib.hid r9
            go_simp
            exact hK.out _ _ ⟨B_a, B_b⟩ ⟨⟨true, l4, true, true, l10, l11, l12, v3, v4, .slice b2 (bodyL t).length c2, .agg #[.int .i64 1, .int .i64 t.step, .slice b2 (bodyL t).length c2], v10, v11, b1, c1, b2, c2, bx_m, bx_n⟩, rfl, by kernel_rfl, (show RunBF wr s t true l4 true true l10 l11 l12 v3 v4 (.slice b2 (bodyL t).length c2) (.agg #[.int .i64 1, .int .i64 t.step, .slice b2 (bodyL t).length c2]) v10 v11 b1 c1 b2 c2 bx_m bx_n wi from ⟨(U), (fun nd4 => (k4_3.out nd4)), (fun nd8 => (k8_3.out nd8)), (fun nd9 => rfl), (fun nd9 => rfl), (fun nd12 => (k12_3.out nd12)), (fun nd12 => (k12_4.out nd12)), (fun nd12 => (k12_8.out nd12)), (fun nd12 => (k12_10.out nd12)), (fun nd12 => (k12_11.out nd12)), (fun nd3 => (r3.out nd3)), (fun nd4 => (r4.out nd4)), (fun nd8 => (r8.out nd8)), (fun nd9 => rfl), (fun nd10 => (r10.out nd10)), (fun nd11 => (r11.out nd11)), (fun nd10 => (Bm nd10)), (fun nd12 => (Bm2 nd12)), (fun nd11 => (Bn nd11)), (fun nd10 => (hb_m nd10)), (fun nd11 => (hb_n nd11)), (fun nd10 nd11 => (ne_mn nd10 nd11)), (fun nd3 => (m1 nd3)), (fun nd8 => (m2 nd8)), (fun nd3 nd8 => (D12 nd3 nd8)), (fun nd3 nd10 => (m1m nd3 nd10)), (fun nd3 nd11 => (m1n nd3 nd11)), (fun nd8 nd10 => (m2m nd8 nd10)), (fun nd8 nd11 => (m2n nd8 nd11))⟩)⟩
          refine StepsI.cons (o := ⟨some 10, _, _, _, _, _⟩) rfl ?_ ?_
          · intro lJ aJ wi K hS hJ hz0 hd hK
            obtain ⟨dJ, hJ⟩ := hJ
            obtain ⟨e1, hJ⟩ := hJ
            obtain ⟨e2, hF⟩ := hJ
            subst e1
            subst e2
            cases dJ with | mk l3 l4 l8 l9 l10 l11 l12 v3 v4 v8 v9 v10 v11 b1 c1 b2 c2 bx_m bx_n =>
            replace hF : RunBF wr s t l3 l4 l8 l9 l10 l11 l12 v3 v4 v8 v9 v10 v11 b1 c1 b2 c2 bx_m bx_n wi := hF
            have U := hF.U
            have k4_3 := hF.k4_3
            have k8_3 := hF.k8_3
            have k9_8 := hF.k9_8
            have k9_3 := hF.k9_3
            have k12_3 := hF.k12_3
            have k12_4 := hF.k12_4
            have k12_8 := hF.k12_8
            have k12_10 := hF.k12_10
            have k12_11 := hF.k12_11
            have r3 := hF.r3
            have r4 := hF.r4
            have r8 := hF.r8
            have r9 := hF.r9
            have r10 := hF.r10
            have r11 := hF.r11
            have Bm := hF.Bm
            have Bm2 := hF.Bm2
            have Bn := hF.Bn
            have hb_m := hF.hb_m
            have hb_n := hF.hb_n
            have ne_mn := hF.ne_mn
            have m1 := hF.m1
            have m2 := hF.m2
            have D12 := hF.D12
            have m1m := hF.m1m
            have m1n := hF.m1n
            have m2m := hF.m2m
            have m2n := hF.m2n
            clear hF
            have e0 : l10 = false := hz0; subst e0
            clear hz0 hd
            have B_a := hS.1
            have B_b := hS.2
            clear hS
            (try simp only [Act.put, List.setIfInBounds_toArray, List.set_cons_zero, List.set_cons_succ])
            replace k12_10 := Lib.hid k12_10
            replace k12_11 := Lib.hid k12_11
            replace k12_3 := Lib.hid k12_3
            replace k12_4 := Lib.hid k12_4
            replace k12_8 := Lib.hid k12_8
            replace k4_3 := Lib.hid k4_3
            replace k8_3 := Lib.hid k8_3
            replace k9_3 := Lib.hid k9_3
            replace k9_8 := Lib.hid k9_8
            replace r10 := Lib.hid r10
            replace r11 := Lib.hid r11
            replace r3 := Lib.hid r3
            replace r4 := Lib.hid r4
            replace r8 := Lib.hid r8
            replace r9 := Lib.hid r9
            go_simp
            refine Exists.elim (Blk.new_ wi rfl 44 #[.int .i64 0, .int .i64 0, .slice none 0 0]) (fun wo q => ?_)
            rw [q.1]
            have B_m := q.2.1; have u := q.2.2.2; have ha : wi.heap.size < wo.heap.size := Nat.le_of_eq q.2.2.1.symm; clear q
            replace B_a := (B_a).below u
            replace B_b := (B_b).below u
            exact hK.out _ _ ⟨B_a, B_b⟩ ⟨⟨l3, l4, l8, l9, true, l11, l12, v3, v4, v8, v9, .pointer (some ⟨wi.heap.size, 0, none⟩), v11, b1, c1, b2, c2, wi.heap.size, bx_n⟩, rfl, by kernel_rfl, (show RunBF wr s t l3 l4 l8 l9 true l11 l12 v3 v4 v8 v9 (.pointer (some ⟨wi.heap.size, 0, none⟩)) v11 b1 c1 b2 c2 wi.heap.size bx_n wo from ⟨((U).trans (u.mono (U).size)), (fun nd4 => (k4_3.out nd4)), (fun nd8 => (k8_3.out nd8)), (fun nd9 => (k9_8.out nd9)), (fun nd9 => (k9_3.out nd9)), (fun nd12 => (by cases k12_10.out nd12)), (fun nd12 => (by cases k12_10.out nd12)), (fun nd12 => (by cases k12_10.out nd12)), (fun nd12 => (by cases k12_10.out nd12)), (fun nd12 => (by cases k12_10.out nd12)), (fun nd3 => (r3.out nd3)), (fun nd4 => (r4.out nd4)), (fun nd8 => (r8.out nd8)), (fun nd9 => (r9.out nd9)), (fun nd10 => rfl), (fun nd11 => (r11.out nd11)), (fun nd10 => fun _ => B_m), (fun nd12 => (by cases k12_10.out nd12)), (fun nd11 => ((Bn nd11)).below u), (fun nd10 => ⟨U.size, ha⟩), (fun nd11 => ⟨((hb_n nd11)).1, Nat.lt_of_lt_of_le ((hb_n nd11)).2 u.size⟩), (fun nd10 nd11 => by have := (hb_n nd11).2; omega), (fun nd3 => ((m1 nd3)).below u), (fun nd8 => ((m2 nd8)).below u), (fun nd3 nd8 => (D12 nd3 nd8)), (fun nd3 nd10 => fun hq => by have := (m1 nd3).feet _ hq; omega), (fun nd3 nd11 => (m1n nd3 nd11)), (fun nd8 nd10 => fun hq => by have := (m2 nd8).feet _ hq; omega), (fun nd8 nd11 => (m2n nd8 nd11))⟩)⟩
          refine StepsI.cons (o := ⟨some 11, _, _, _, _, _⟩) rfl ?_ ?_
          · intro lJ aJ wi K hS hJ hz0 hd hK
            obtain ⟨dJ, hJ⟩ := hJ
            obtain ⟨e1, hJ⟩ := hJ
            obtain ⟨e2, hF⟩ := hJ
            subst e1
            subst e2
            cases dJ with | mk l3 l4 l8 l9 l10 l11 l12 v3 v4 v8 v9 v10 v11 b1 c1 b2 c2 bx_m bx_n =>
            replace hF : RunBF wr s t l3 l4 l8 l9 l10 l11 l12 v3 v4 v8 v9 v10 v11 b1 c1 b2 c2 bx_m bx_n wi := hF
            have U := hF.U
            have k4_3 := hF.k4_3
            have k8_3 := hF.k8_3
            have k9_8 := hF.k9_8
            have k9_3 := hF.k9_3
            have k12_3 := hF.k12_3
            have k12_4 := hF.k12_4
            have k12_8 := hF.k12_8
            have k12_10 := hF.k12_10
            have k12_11 := hF.k12_11
            have r3 := hF.r3
            have r4 := hF.r4
            have r8 := hF.r8
            have r9 := hF.r9
            have r10 := hF.r10
            have r11 := hF.r11
            have Bm := hF.Bm
            have Bm2 := hF.Bm2
            have Bn := hF.Bn
            have hb_m := hF.hb_m
            have hb_n := hF.hb_n
            have ne_mn := hF.ne_mn
            have m1 := hF.m1
            have m2 := hF.m2
            have D12 := hF.D12
            have m1m := hF.m1m
            have m1n := hF.m1n
            have m2m := hF.m2m
            have m2n := hF.m2n
            clear hF
            have e0 : l11 = false := hz0; subst e0
            clear hz0 hd
            have B_a := hS.1
            have B_b := hS.2
            clear hS
            (try simp only [Act.put, List.setIfInBounds_toArray, List.set_cons_zero, List.set_cons_succ])
            replace k12_10 := Lib.hid k12_10
            replace k12_11 := Lib.hid k12_11
            replace k12_3 := Lib.hid k12_3
            replace k12_4 := Lib.hid k12_4
            replace k12_8 := Lib.hid k12_8
            replace k4_3 := Lib.hid k4_3
            replace k8_3 := Lib.hid k8_3
            replace k9_3 := Lib.hid k9_3
            replace k9_8 := Lib.hid k9_8
            replace r10 := Lib.hid r10
            replace r11 := Lib.hid r11
            replace r3 := Lib.hid r3
            replace r4 := Lib.hid r4
            replace r8 := Lib.hid r8
            replace r9 := Lib.hid r9
            go_simp
            refine Exists.elim (Blk.new_ wi rfl 44 #[.int .i64 0, .int .i64 0, .slice none 0 0]) (fun wo q => ?_)
            rw [q.1]
            have B_n := q.2.1; have u := q.2.2.2; have ha : wi.heap.size < wo.heap.size := Nat.le_of_eq q.2.2.1.symm; clear q
            replace B_a := (B_a).below u
            replace B_b := (B_b).below u
            exact hK.out _ _ ⟨B_a, B_b⟩ ⟨⟨l3, l4, l8, l9, l10, true, l12, v3, v4, v8, v9, v10, .pointer (some ⟨wi.heap.size, 0, none⟩), b1, c1, b2, c2, bx_m, wi.heap.size⟩, rfl, by kernel_rfl, (show RunBF wr s t l3 l4 l8 l9 l10 true l12 v3 v4 v8 v9 v10 (.pointer (some ⟨wi.heap.size, 0, none⟩)) b1 c1 b2 c2 bx_m wi.heap.size wo from ⟨((U).trans (u.mono (U).size)), (fun nd4 => (k4_3.out nd4)), (fun nd8 => (k8_3.out nd8)), (fun nd9 => (k9_8.out nd9)), (fun nd9 => (k9_3.out nd9)), (fun nd12 => (by cases k12_11.out nd12)), (fun nd12 => (by cases k12_11.out nd12)), (fun nd12 => (by cases k12_11.out nd12)), (fun nd12 => (by cases k12_11.out nd12)), (fun nd12 => (by cases k12_11.out nd12)), (fun nd3 => (r3.out nd3)), (fun nd4 => (r4.out nd4)), (fun nd8 => (r8.out nd8)), (fun nd9 => (r9.out nd9)), (fun nd10 => (r10.out nd10)), (fun nd11 => rfl), (fun nd10 => fun h => ((Bm nd10) h).below u), (fun nd12 => (by cases k12_11.out nd12)), (fun nd11 => B_n), (fun nd10 => ⟨((hb_m nd10)).1, Nat.lt_of_lt_of_le ((hb_m nd10)).2 u.size⟩), (fun nd11 => ⟨U.size, ha⟩), (fun nd10 nd11 => by have := (hb_m nd10).2; omega), (fun nd3 => ((m1 nd3)).below u), (fun nd8 => ((m2 nd8)).below u), (fun nd3 nd8 => (D12 nd3 nd8)), (fun nd3 nd10 => (m1m nd3 nd10)), (fun nd3 nd11 => fun hq => by have := (m1 nd3).feet _ hq; omega), (fun nd8 nd10 => (m2m nd8 nd10)), (fun nd8 nd11 => fun hq => by have := (m2 nd8).feet _ hq; omega)⟩)⟩
          refine StepsI.cons (o := ⟨none, _, _, _, _, _⟩) rfl ?_ ?_
          · intro lJ aJ wi K hS hJ hz0 hd hK
            obtain ⟨dJ, hJ⟩ := hJ
            obtain ⟨e1, hJ⟩ := hJ
            obtain ⟨e2, hF⟩ := hJ
            subst e1
            subst e2
            cases dJ with | mk l3 l4 l8 l9 l10 l11 l12 v3 v4 v8 v9 v10 v11 b1 c1 b2 c2 bx_m bx_n =>
            replace hF : RunBF wr s t l3 l4 l8 l9 l10 l11 l12 v3 v4 v8 v9 v10 v11 b1 c1 b2 c2 bx_m bx_n wi := hF
            have U := hF.U
            have k4_3 := hF.k4_3
            have k8_3 := hF.k8_3
            have k9_8 := hF.k9_8
            have k9_3 := hF.k9_3
            have k12_3 := hF.k12_3
            have k12_4 := hF.k12_4
            have k12_8 := hF.k12_8
            have k12_10 := hF.k12_10
            have k12_11 := hF.k12_11
            have r3 := hF.r3
            have r4 := hF.r4
            have r8 := hF.r8
            have r9 := hF.r9
            have r10 := hF.r10
            have r11 := hF.r11
            have Bm := hF.Bm
            have Bm2 := hF.Bm2
            have Bn := hF.Bn
            have hb_m := hF.hb_m
            have hb_n := hF.hb_n
            have ne_mn := hF.ne_mn
            have m1 := hF.m1
            have m2 := hF.m2
            have D12 := hF.D12
            have m1m := hF.m1m
            have m1n := hF.m1n
            have m2m := hF.m2m
            have m2n := hF.m2n
            clear hF
            have e0 : l12 = false := hz0; subst e0
            have e3 : l3 = true := hd 3 (by kernel_rfl); subst e3
            have e4 : l4 = true := hd 4 (by kernel_rfl); subst e4
            have e8 : l8 = true := hd 8 (by kernel_rfl); subst e8
            have e10 : l10 = true := hd 10 (by kernel_rfl); subst e10
            have e11 : l11 = true := hd 11 (by kernel_rfl); subst e11
            clear hz0 hd
            have B_a := hS.1
            have B_b := hS.2
            clear hS
            (try simp only [Act.put, List.setIfInBounds_toArray, List.set_cons_zero, List.set_cons_succ])
            have g' := r4 rfl; subst g'
            have g' := r10 rfl; subst g'
            replace k12_10 := Lib.hid k12_10
            replace k12_11 := Lib.hid k12_11
            replace k12_3 := Lib.hid k12_3
            replace k12_4 := Lib.hid k12_4
            replace k12_8 := Lib.hid k12_8
            replace k4_3 := Lib.hid k4_3
            replace k8_3 := Lib.hid k8_3
            replace k9_3 := Lib.hid k9_3
            replace k9_8 := Lib.hid k9_8
            replace r10 := Lib.hid r10
            replace r11 := Lib.hid r11
            replace r3 := Lib.hid r3
            replace r4 := Lib.hid r4
            replace r8 := Lib.hid r8
            replace r9 := Lib.hid r9
            have B_m := Bm rfl rfl
            refine step_st B_m (by simp [Region.wanted]) _ _ _ (by rfl) (by rfl) (by rfl) (by kernel_rfl) (by rfl) (by simp [Value.oneCell']) ?_
            intro wo B_m' G
            replace B_m := B_m'; clear B_m'
            have u := G; clear G
            replace B_a := (B_a).only u (by have := (hb_m rfl).1; simp; omega)
            replace B_b := (B_b).only u (by have := (hb_m rfl).1; simp; omega)
            exact hK.out _ _ ⟨B_a, B_b⟩ ⟨⟨true, true, true, l9, true, true, true, v3, .agg #[.int .i64 0, .int .i64 s.step, .slice b1 (bodyL s).length c1], v8, v9, .pointer (some ⟨bx_m, 0, none⟩), v11, b1, c1, b2, c2, bx_m, bx_n⟩, rfl, by kernel_rfl, (show RunBF wr s t true true true l9 true true true v3 (.agg #[.int .i64 0, .int .i64 s.step, .slice b1 (bodyL s).length c1]) v8 v9 (.pointer (some ⟨bx_m, 0, none⟩)) v11 b1 c1 b2 c2 bx_m bx_n wo from ⟨((U).trans (u.below (U).size (fun q hq => by simp at hq; have := (hb_m rfl).1; omega))), (fun nd4 => (k4_3.out nd4)), (fun nd8 => (k8_3.out nd8)), (fun nd9 => (k9_8.out nd9)), (fun nd9 => (k9_3.out nd9)), (fun nd12 => rfl), (fun nd12 => rfl), (fun nd12 => rfl), (fun nd12 => rfl), (fun nd12 => rfl), (fun nd3 => (r3.out nd3)), (fun nd4 => (r4.out nd4)), (fun nd8 => (r8.out nd8)), (fun nd9 => (r9.out nd9)), (fun nd10 => (r10.out nd10)), (fun nd11 => (r11.out nd11)), (fun nd10 => fun h => by cases h), (fun nd12 => B_m), (fun nd11 => ((Bn nd11)).only u (fun hq => by simp at hq; exact ne_mn rfl rfl hq.symm)), (fun nd10 => ⟨((hb_m nd10)).1, Nat.lt_of_lt_of_le ((hb_m nd10)).2 u.size⟩), (fun nd11 => ⟨((hb_n nd11)).1, Nat.lt_of_lt_of_le ((hb_n nd11)).2 u.size⟩), (fun nd10 nd11 => (ne_mn nd10 nd11)), (fun nd3 => ((m1 nd3)).only u (fun q hq hq' => by simp at hq'; subst hq'; exact m1m rfl rfl hq)), (fun nd8 => ((m2 nd8)).only u (fun q hq hq' => by simp at hq'; subst hq'; exact m2m rfl rfl hq)), (fun nd3 nd8 => (D12 nd3 nd8)), (fun nd3 nd10 => (m1m nd3 nd10)), (fun nd3 nd11 => (m1n nd3 nd11)), (fun nd8 nd10 => (m2m nd8 nd10)), (fun nd8 nd11 => (m2n nd8 nd11))⟩)⟩
          exact StepsI.nil
        case he =>
          intro aJ wc hS hJ
          obtain ⟨dJ, hJ⟩ := hJ
          obtain ⟨hl, hJ⟩ := hJ
          obtain ⟨e2, hF⟩ := hJ
          subst e2
          cases dJ with | mk l3 l4 l8 l9 l10 l11 l12 v3 v4 v8 v9 v10 v11 b1 c1 b2 c2 bx_m bx_n =>
          replace hF : RunBF wr s t l3 l4 l8 l9 l10 l11 l12 v3 v4 v8 v9 v10 v11 b1 c1 b2 c2 bx_m bx_n wc := hF
          have U := hF.U
          have k4_3 := hF.k4_3
          have k8_3 := hF.k8_3
          have k9_8 := hF.k9_8
          have k9_3 := hF.k9_3
          have k12_3 := hF.k12_3
          have k12_4 := hF.k12_4
          have k12_8 := hF.k12_8
          have k12_10 := hF.k12_10
          have k12_11 := hF.k12_11
          have r3 := hF.r3
          have r4 := hF.r4
          have r8 := hF.r8
          have r9 := hF.r9
          have r10 := hF.r10
          have r11 := hF.r11
          have Bm := hF.Bm
          have Bm2 := hF.Bm2
          have Bn := hF.Bn
          have hb_m := hF.hb_m
          have hb_n := hF.hb_n
          have ne_mn := hF.ne_mn
          have m1 := hF.m1
          have m2 := hF.m2
          have D12 := hF.D12
          have m1m := hF.m1m
          have m1n := hF.m1n
          have m2m := hF.m2m
          have m2n := hF.m2n
          clear hF
          have e3 : true = l3 := congrArg (fun q : Array Bool => q.getD 3 true) hl; subst e3
          have e4 : true = l4 := congrArg (fun q : Array Bool => q.getD 4 true) hl; subst e4
          have e8 : true = l8 := congrArg (fun q : Array Bool => q.getD 8 true) hl; subst e8
          have e9 : true = l9 := congrArg (fun q : Array Bool => q.getD 9 true) hl; subst e9
          have e10 : true = l10 := congrArg (fun q : Array Bool => q.getD 10 true) hl; subst e10
          have e11 : true = l11 := congrArg (fun q : Array Bool => q.getD 11 true) hl; subst e11
          have e12 : true = l12 := congrArg (fun q : Array Bool => q.getD 12 true) hl; subst e12
          clear hl k4_3 k8_3 k9_8 k9_3 k12_3 k12_4 k12_8 k12_10 k12_11
          replace r3 := r3 rfl
          replace r4 := r4 rfl
          replace r8 := r8 rfl
          replace r9 := r9 rfl
          replace r10 := r10 rfl
          replace r11 := r11 rfl
          replace Bm := Bm rfl
          replace Bm2 := Bm2 rfl
          replace Bn := Bn rfl
          replace hb_m := hb_m rfl
          replace hb_n := hb_n rfl
          replace ne_mn := ne_mn rfl rfl
          replace m1 := m1 rfl
          replace m2 := m2 rfl
          replace D12 := D12 rfl rfl
          replace m1m := m1m rfl rfl
          replace m1n := m1n rfl rfl
          replace m2m := m2m rfl rfl
          replace m2n := m2n rfl rfl
          have hHeld := hS
          have B_a := hS.1
          have B_b := hS.2
          clear hS
          (try simp only [Act.put, List.setIfInBounds_toArray, List.set_cons_zero, List.set_cons_succ])
          subst r3 r4 r8 r9 r10 r11
          have B_m := Bm2; have B_n := Bn
          clear Bm Bm2 Bn
          replace B_r := B_r.below U
          replace B_q := B_q.below U
          replace oa := oa.below U
          replace ob := ob.below U
          replace om := om.below U
          have Q_m1 := Lib.hid m1.feet
          have Q_m2 := Lib.hid m2.feet
          have SU := U.size
          have G_all : Only [bx_n] wc wc := Only.refl _ _
          refine wpAnyH_ready (rs := [13]) (by kernel_rfl) (by simp) ?_
          refine AllReadyH.cons (o := ⟨none, _, _, _, _, _⟩) rfl (fun K hK => ?_) ?_
          refine step_st B_n (by simp [Region.wanted]) _ _ _ (by rfl) (by rfl) (by rfl) (by kernel_rfl) (by rfl) (by simp [Value.oneCell']) ?_
          intro wS13 B_n' G
          replace B_n := B_n'; clear B_n'
          replace B_a := B_a.only G (by first | (simp; done) | (simp; omega))
          replace B_b := B_b.only G (by first | (simp; done) | (simp; omega))
          replace B_r := B_r.only G (by first | (simp; done) | (simp; omega))
          replace B_q := B_q.only G (by first | (simp; done) | (simp; omega))
          replace B_m := B_m.only G (by first | (simp; done) | (simp; omega))
          replace oa := oa.only G (fun q hq hq' => by have := Q_oa.out q hq; simp at hq'; omega)
          replace ob := ob.only G (fun q hq hq' => by have := Q_ob.out q hq; simp at hq'; omega)
          replace om := om.only G (fun q hq hq' => by have := Q_om.out q hq; simp at hq'; omega)
          replace m1 := m1.only G (fun q hq hq' => by simp at hq'; subst hq'; exact m1n hq)
          replace m2 := m2.only G (fun q hq hq' => by simp at hq'; subst hq'; exact m2n hq)
          replace G_all := G_all.trans (G.more (F' := [bx_n]) (by simp))
          clear G
          refine hK.out _ _ ?_ (fun hHeld => ?_)
          · exact ⟨B_a, B_b⟩
          clear hK K
          (try simp only [pt_])
          refine wpAnyH_done (by kernel_rfl) ?_ _
          refine NoPanic.normal ?_
          rotate_left 1
          exact AllReadyH.nil
          have V5 : Below wr.heap.size wr wS13 := U.trans (G_all.below U.size (by intro q hq; simp at hq; omega))
          have SG := G_all.size
          clear G_all U SU
          have wN : IntKind.i64.wrap ((N : Int) + 1) = (N : Int) + 1 := by have := hN.out; exact IntWalk.i64_in _ (by omega)
          have NM := om.foot
          have e_m := B_m.all3
          have e_n := B_n.all3
          go_wp2_with (at_builtin; refine wpList_appM2 wS13 rfl _ _ rfl (w.heap.size + 4) p N c D Fm om rfl 0 s.step 1 t.step b1 c1 (bodyL s) b2 c2 (bodyL t) (m1.lower (by omega)) (m2.lower (by omega)) D12 (fun q hq hq' => by have := Q_m1.out q hq; have := Q_om.out q hq'; omega) (fun q hq hq' => by have := Q_m2.out q hq; have := Q_om.out q hq'; omega) rfl (by have := hN.out; omega) (by omega) ?_)
          clear e_m e_n
          intro a5 c5 w7 Fm' om' hX7 o7 hP7
          go_upto_region 8 with fail
          have SZ7 := o7.size
          have hf : ∀ q ∈ foot p c, w.heap.size + 4 ≤ q ∧ q < wr.heap.size := fun q hq => Q_om.out q (NM q hq)
          replace B_a := B_a.only o7 (fun hq => by have := hf _ hq; omega)
          replace B_b := B_b.only o7 (fun hq => by have := hf _ hq; omega)
          replace B_r := B_r.only o7 (fun hq => by have := hf _ hq; omega)
          replace B_q := B_q.only o7 (fun hq => by have := hf _ hq; omega)
          replace B_m := B_m.only o7 (fun hq => by have := hf _ hq; omega)
          replace B_n := B_n.only o7 (fun hq => by have := hf _ hq; omega)
          replace oa := oa.only o7 (fun q hq hq' => dam q hq (NM q hq'))
          replace ob := ob.only o7 (fun q hq hq' => dbm q hq (NM q hq'))
          replace m1 := m1.only o7 (fun q hq hq' => by have := Q_m1.out q hq; have := hf q hq'; omega)
          replace m2 := m2.only o7 (fun q hq hq' => by have := Q_m2.out q hq; have := hf q hq'; omega)
          have hT7 : Disj Ti (foot a5 c5) := hP7 Ti hTp.out (fun q hq => by have := (hTl.out q hq).1; have := V5.size; omega)
          have dam' : Disj Fa Fm' := hX7 Fa dam (fun q hq hq' => by have := Q_oa.out q hq; have := Q_m1.out q hq'; omega) (fun q hq hq' => by have := Q_oa.out q hq; have := Q_m2.out q hq'; omega) (fun q hq => by have := (Q_oa.out q hq).2; have := V5.size; omega)
          have dbm' : Disj Fb Fm' := hX7 Fb dbm (fun q hq hq' => by have := Q_ob.out q hq; have := Q_m1.out q hq'; omega) (fun q hq hq' => by have := Q_ob.out q hq; have := Q_m2.out q hq'; omega) (fun q hq => by have := (Q_ob.out q hq).2; have := V5.size; omega)
          have h15 : Disj (foot b1 c1) (foot a5 c5) := hP7 _ (fun q hq hq' => by have := Q_m1.out q hq; have := hf q hq'; omega) (fun q hq => by have := (Q_m1.out q hq).2; omega)
          have h25 : Disj (foot b2 c2) (foot a5 c5) := hP7 _ (fun q hq hq' => by have := Q_m2.out q hq; have := hf q hq'; omega) (fun q hq => by have := (Q_m2.out q hq).2; omega)
          have Q_om7' := Lib.hid om'.feet
          have Q_o5 := Lib.hid (fun q (hq : q ∈ foot a5 c5) => om'.feet q (om'.foot q hq))
          have V7 : Only F0 w w7 := (V_wr.out.trans (Only.of_below V5)).thn o7 (fun q hq => Or.inl (by have := hf q hq; omega))
          have LX7 : Hid (Tbl w7) := Lib.hid (LX.out.only V7 (fun h0 => (LF.out 0 h0).2 rfl))
          have IT7 : I w7 Ti := LIS.out wr w7 Ti (foot p c) hIT.out ((Only.of_below V5).trans o7) hTp.out (fun q hq => (hTl.out q hq).1)
          have TL7 : ∀ q ∈ Ti, q < w7.heap.size := fun q hq => by have := (hTl.out q hq).1; have := V5.size; omega
          have nF_a : w.heap.size ∉ F0 := fun hq => by have := LF.out _ hq; omega
          have nF_b : w.heap.size + 1 ∉ F0 := fun hq => by have := LF.out _ hq; omega
          have nF_m : bx_m ∉ F0 := fun hq => by have := LF.out _ hq; omega
          have nF_n : bx_n ∉ F0 := fun hq => by have := LF.out _ hq; omega
          have s7 : wr.heap.size ≤ w7.heap.size := by have := V5.size; omega
          obtain ⟨cm, hcm⟩ : ∃ q, chg ((N : Int) + 1) (1, t.step, bodyL t) = q := ⟨_, rfl⟩
          obtain ⟨cn, hcn⟩ : ∃ q, chg (N : Int) (0, s.step, bodyL s) = q := ⟨_, rfl⟩
          obtain ⟨s2, hs2⟩ : ∃ q, takeP s cm.1 cm.2.1 cm.2.2 = q := ⟨_, rfl⟩
          obtain ⟨t2, ht2⟩ : ∃ q, takeP t cn.1 cn.2.1 cn.2.2 = q := ⟨_, rfl⟩
          have hk3 : Hid (s.step = k ∧ t.step = k) := Lib.hid ⟨LRS.out.sa, LRS.out.sb⟩
          have C5 := fun (W : World) (Tx : List Nat) (i1 : I W Tx) (i2 : ∀ q ∈ Tx, q < W.heap.size) (i3 : Ints W b2 (bodyL t).length c2 (bodyL t)) (i4 : ∀ q ∈ foot b2 c2, w.heap.size ≤ q ∧ q < W.heap.size) => LC.out W Tx i1 i2 ((N : Int) + 1) 1 t.step b2 _ c2 (bodyL t) (by omega) (by have := hN.out; omega) i3 (by have := hN.out; rw [show (((N : Int) + 1) / 2).toNat = k by omega, bodyL_len t LRS.out.bn (by have := hk3.out; omega), hk3.out.2]; rfl) (fun v hv => by have := bodyL_rng t LRS.out.bn v hv; rw [htP.out] at this; exact this) i4
          have C11 := fun (W : World) (Tx : List Nat) (i1 : I W Tx) (i2 : ∀ q ∈ Tx, q < W.heap.size) (i3 : Ints W b1 (bodyL s).length c1 (bodyL s)) (i4 : ∀ q ∈ foot b1 c1, w.heap.size ≤ q ∧ q < W.heap.size) => LC.out W Tx i1 i2 (N : Int) 0 s.step b1 _ c1 (bodyL s) (by omega) (by have := hN.out; omega) i3 (by have := hN.out; rw [show ((N : Int) / 2).toNat = k by omega, bodyL_len s LRS.out.an (by have := hk3.out; omega), hk3.out.1]; rfl) (fun v hv => by have := bodyL_rng s LRS.out.an v hv; rw [hsP.out] at this; exact this) i4
          have C6 := fun (W : World) (pp : Option Addr) (nn cc : Nat) (h1 : PlR W xs s.shares s.keys s.heard) (h2 : Ints W pp nn cc cm.2.2) (h3 : Tbl W) => take_any s xs cm.1 cm.2.1 pp nn cc cm.2.2 W h1 h2 h3 LRS.out.an (by have := hk3.out; omega)
          have C12 := fun (W : World) (pp : Option Addr) (nn cc : Nat) (h1 : PlR W ys t.shares t.keys t.heard) (h2 : Ints W pp nn cc cn.2.2) (h3 : Tbl W) => take_any t ys cn.1 cn.2.1 pp nn cc cn.2.2 W h1 h2 h3 LRS.out.bn (by have := hk3.out; omega)
          rw [hcm] at C5
          rw [hcn] at C11
          rw [hs2] at C6
          rw [ht2] at C12
          replace C5 := Lib.hid C5
          replace C6 := Lib.hid C6
          replace C11 := Lib.hid C11
          replace C12 := Lib.hid C12
          replace hcm := Lib.hid hcm
          replace hcn := Lib.hid hcn
          replace hs2 := Lib.hid hs2
          replace ht2 := Lib.hid ht2
          clear hX7 hP7 o7 SZ7
          replace B_m := Blk.drew B_m
          replace B_n := Blk.drew B_n
          refine wp_region_noPanic ?_
          refine wp_region_held_drew (S := (fun W => Blk W (bx_m) 44 #[.int .i64 0, .int .i64 s.step, .slice b1 (bodyL s).length c1] ∧ Blk W (bx_n) 44 #[.int .i64 1, .int .i64 t.step, .slice b2 (bodyL t).length c2])) (by kernel_rfl) ?hS9 (fun hHeld => ?go9)
          case hS9 => exact ⟨B_m, B_n⟩
          refine tk (i := 1) (oi := ⟨some 38, _, _, _, _, _⟩) (v := ?v1_10) hHeld rfl ?y1_10 ?r1_10
          case y1_10 => (intro w _; first | (go_simp; first | done | with_reducible rfl) | with_reducible rfl)
          (try simp only [pt_])
          refine tk (i := 2) (oi := ⟨some 39, _, _, _, _, _⟩) (v := ?v2_11) hHeld rfl ?y2_11 ?r2_11
          case y2_11 => (intro w _; first | (go_simp; first | done | with_reducible rfl) | with_reducible rfl)
          (try simp only [pt_])
          refine tk (i := 3) (oi := ⟨some 40, _, _, _, _, _⟩) (v := ?v3_12) hHeld rfl ?y3_12 ?r3_12
          case y3_12 => (intro w _; first | (go_simp; first | done | with_reducible rfl) | with_reducible rfl)
          (try simp only [pt_])
          refine tk (i := 4) (oi := ⟨some 41, _, _, _, _, _⟩) (v := ?v4_13) hHeld rfl ?y4_13 ?r4_13
          case y4_13 => (intro w hSw; obtain ⟨qS0, qS1⟩ := hSw; have cS0 := qS0.all3; have cS1 := qS1.all3; first | (go_simp; first | done | with_reducible rfl) | with_reducible rfl)
          (try simp only [pt_])
          refine tk (i := 8) (oi := ⟨some 45, _, _, _, _, _⟩) (v := ?v8_14) hHeld rfl ?y8_14 ?r8_14
          case y8_14 => (intro w _; first | (go_simp; first | done | with_reducible rfl) | with_reducible rfl)
          (try simp only [pt_])
          refine tk (i := 9) (oi := ⟨some 46, _, _, _, _, _⟩) (v := ?v9_15) hHeld rfl ?y9_15 ?r9_15
          case y9_15 => (intro w _; first | (go_simp; first | done | with_reducible rfl) | with_reducible rfl)
          (try simp only [pt_])
          refine tk (i := 10) (oi := ⟨some 47, _, _, _, _, _⟩) (v := ?v10_16) hHeld rfl ?y10_16 ?r10_16
          case y10_16 => (intro w hSw; obtain ⟨qS0, qS1⟩ := hSw; have cS0 := qS0.all3; have cS1 := qS1.all3; first | (go_simp; first | done | with_reducible rfl) | with_reducible rfl)
          (try simp only [pt_])
          rotate_left 1
          refine wpAnyH_inv [0, 5, 6, 7, 11, 12] #[false, true, true, true, true, false, false, false, true, true, true, false, false, false, false] #[true, true, true, true, true, true, true, true, true, true, true, true, true, false, false] 8 2 (fun (a0J : Act) (lJ : Array Bool) (aJ : Act) (wJ : World) => ∃ dJ : RunCD, lJ = #[dJ.l0, true, true, true, true, dJ.l5, dJ.l6, dJ.l7, true, true, true, dJ.l11, dJ.l12, false, false] ∧ aJ = ((((((a0J.put (some 37) dJ.v0).put (some 42) dJ.v5).put (some 43) dJ.v6).put (some 44) dJ.v7).put (some 48) dJ.v11).put (some 49) dJ.v12) ∧ RunCF w7 F0 I s t s2 t2 xs ys cm cn b1 c1 b2 c2 Ti dJ.l0 dJ.l5 dJ.l6 dJ.l7 dJ.l11 dJ.l12 dJ.v0 dJ.v5 dJ.v6 dJ.v7 dJ.v11 dJ.v12 dJ.pa dJ.na dJ.ca dJ.xa dJ.Fa2 dJ.pb dJ.nb dJ.cb dJ.xb dJ.Fb2 dJ.Ti2 wJ) (by kernel_rfl) (by kernel_rfl) (by kernel_rfl) (by kernel_rfl) (by kernel_rfl) ?hJ hHeld ?hi ?hs ?he
          case hJ => rintro lJ aJ wJ ⟨dJ, rfl, _⟩; exact ⟨[dJ.l0, dJ.l5, dJ.l6, dJ.l7, dJ.l11, dJ.l12], rfl, rfl⟩
          case hi => exact ⟨⟨false, false, false, false, false, false, _, _, _, _, _, _, none, 0, 0, zeroX, [], none, 0, 0, zeroX, [], Ti⟩, rfl, (Act.selfs (Act.selfs (Act.selfs (Act.selfs (Act.selfs (Act.selfs rfl 37) 42) 43) 44) 48) 49), ⟨(Only.refl _ _).drew, fun q0 => (by cases q0), fun q0 => (by cases q0), fun q0 => (by cases q0), fun q0 => (by cases q0), fun q0 => (by cases q0), fun q0 => (by cases q0), fun q0 => (by cases q0), fun q0 => (by cases q0), fun q0 => (by cases q0), fun q0 => (by cases q0), fun q0 => (by cases q0), fun q0 => (by cases q0), fun q0 => (by cases q0), fun q0 => (by cases q0), fun q0 => (by cases q0), fun q0 => (by cases q0), fun q0 => (by cases q0), fun q0 => (by cases q0), fun q0 => (by cases q0), fun q0 => (by cases q0), fun q0 q1 => (by cases q0), LIS.out _ _ _ [] IT7 ((Only.refl _ _).drew) (fun q _ hq' => by simp at hq') TL7, TL7, fun q hq => Or.inl hq⟩⟩
          case hs =>
            refine StepsI.cons (o := ⟨some 37, _, _, _, _, _⟩) rfl ?_ ?_
            · intro lJ aJ wi K hS hJ hz0 hd hK
              obtain ⟨dJ, hJ⟩ := hJ
              obtain ⟨e1, hJ⟩ := hJ
              obtain ⟨e2, hF⟩ := hJ
              subst e1
              subst e2
              cases dJ with | mk l0 l5 l6 l7 l11 l12 v0 v5 v6 v7 v11 v12 pa na ca xa Fa2 pb nb cb xb Fb2 Ti2 =>
              replace hF : RunCF w7 F0 I s t s2 t2 xs ys cm cn b1 c1 b2 c2 Ti l0 l5 l6 l7 l11 l12 v0 v5 v6 v7 v11 v12 pa na ca xa Fa2 pb nb cb xb Fb2 Ti2 wi := hF
              have U := hF.U
              have k6_0 := hF.k6_0
              have k6_5 := hF.k6_5
              have k11_6 := hF.k11_6
              have k11_0 := hF.k11_0
              have k11_5 := hF.k11_5
              have k12_7 := hF.k12_7
              have k12_11 := hF.k12_11
              have k12_6 := hF.k12_6
              have k12_0 := hF.k12_0
              have k12_5 := hF.k12_5
              have g0 := hF.g0
              have g7 := hF.g7
              have r5 := hF.r5
              have r11 := hF.r11
              have r6 := hF.r6
              have r12 := hF.r12
              have i5 := hF.i5
              have i11 := hF.i11
              have o6 := hF.o6
              have o12 := hF.o12
              have D612 := hF.D612
              have IT := hF.IT
              have TL := hF.TL
              have TS := hF.TS
              clear hF
              have e0 : l0 = false := hz0; subst e0
              clear hz0 hd
              have B_m := hS.1
              have B_n := hS.2
              clear hS
              (try simp only [Act.put, List.setIfInBounds_toArray, List.set_cons_zero, List.set_cons_succ])
              replace g0 := Lib.hid g0
              replace g7 := Lib.hid g7
              replace k11_0 := Lib.hid k11_0
              replace k11_5 := Lib.hid k11_5
              replace k11_6 := Lib.hid k11_6
              replace k12_0 := Lib.hid k12_0
              replace k12_11 := Lib.hid k12_11
              replace k12_5 := Lib.hid k12_5
              replace k12_6 := Lib.hid k12_6
              replace k12_7 := Lib.hid k12_7
              replace k6_0 := Lib.hid k6_0
              replace k6_5 := Lib.hid k6_5
              replace r11 := Lib.hid r11
              replace r12 := Lib.hid r12
              replace r5 := Lib.hid r5
              replace r6 := Lib.hid r6
              have B_i := B_a.only U nF_a
              have cl0 := B_i.all11
              go_simp
              clear B_i cl0
              exact hK.out _ _ ⟨B_m, B_n⟩ ⟨⟨true, l5, l6, l7, l11, l12, .agg #[.int .i64 s.P, .int .i64 s.party, .int .i64 s.input, .int .i64 s.mask, .int .i64 s.delta, .slice xs.sa xs.sn xs.sc, .slice xs.ka xs.kn xs.kc, .int .i64 s.step, .slice xs.ha xs.hn xs.hc, .int .i64 s.status, .int .i64 s.out], v5, v6, v7, v11, v12, pa, na, ca, xa, Fa2, pb, nb, cb, xb, Fb2, Ti2⟩, rfl, by kernel_rfl, (show RunCF w7 F0 I s t s2 t2 xs ys cm cn b1 c1 b2 c2 Ti true l5 l6 l7 l11 l12 (.agg #[.int .i64 s.P, .int .i64 s.party, .int .i64 s.input, .int .i64 s.mask, .int .i64 s.delta, .slice xs.sa xs.sn xs.sc, .slice xs.ka xs.kn xs.kc, .int .i64 s.step, .slice xs.ha xs.hn xs.hc, .int .i64 s.status, .int .i64 s.out]) v5 v6 v7 v11 v12 pa na ca xa Fa2 pb nb cb xb Fb2 Ti2 wi from ⟨(U), (fun nd6 => (by cases k6_0.out nd6)), (fun nd6 => (by cases k6_0.out nd6)), (fun nd11 => (by cases k11_0.out nd11)), (fun nd11 => (by cases k11_0.out nd11)), (fun nd11 => (by cases k11_0.out nd11)), (fun nd12 => (by cases k12_0.out nd12)), (fun nd12 => (by cases k12_0.out nd12)), (fun nd12 => (by cases k12_0.out nd12)), (fun nd12 => (by cases k12_0.out nd12)), (fun nd12 => (by cases k12_0.out nd12)), (fun nd0 => rfl), (fun nd7 => (g7.out nd7)), (fun nd5 => (r5.out nd5)), (fun nd11 => (by cases k11_0.out nd11)), (fun nd6 => (by cases k6_0.out nd6)), (fun nd12 => (by cases k12_0.out nd12)), (fun nd5 => (i5 nd5)), (fun nd11 => (by cases k11_0.out nd11)), (fun nd6 => (by cases k6_0.out nd6)), (fun nd12 => (by cases k12_0.out nd12)), (fun nd6 nd12 => (by cases k6_0.out nd6)), (IT), (TL), (TS)⟩)⟩
            refine StepsI.cons (o := ⟨some 42, _, _, _, _, _⟩) rfl ?_ ?_
            · intro lJ aJ wi K hS hJ hz0 hd hK
              obtain ⟨dJ, hJ⟩ := hJ
              obtain ⟨e1, hJ⟩ := hJ
              obtain ⟨e2, hF⟩ := hJ
              subst e1
              subst e2
              cases dJ with | mk l0 l5 l6 l7 l11 l12 v0 v5 v6 v7 v11 v12 pa na ca xa Fa2 pb nb cb xb Fb2 Ti2 =>
              replace hF : RunCF w7 F0 I s t s2 t2 xs ys cm cn b1 c1 b2 c2 Ti l0 l5 l6 l7 l11 l12 v0 v5 v6 v7 v11 v12 pa na ca xa Fa2 pb nb cb xb Fb2 Ti2 wi := hF
              have U := hF.U
              have k6_0 := hF.k6_0
              have k6_5 := hF.k6_5
              have k11_6 := hF.k11_6
              have k11_0 := hF.k11_0
              have k11_5 := hF.k11_5
              have k12_7 := hF.k12_7
              have k12_11 := hF.k12_11
              have k12_6 := hF.k12_6
              have k12_0 := hF.k12_0
              have k12_5 := hF.k12_5
              have g0 := hF.g0
              have g7 := hF.g7
              have r5 := hF.r5
              have r11 := hF.r11
              have r6 := hF.r6
              have r12 := hF.r12
              have i5 := hF.i5
              have i11 := hF.i11
              have o6 := hF.o6
              have o12 := hF.o12
              have D612 := hF.D612
              have IT := hF.IT
              have TL := hF.TL
              have TS := hF.TS
              clear hF
              have e0 : l5 = false := hz0; subst e0
              clear hz0 hd
              have B_m := hS.1
              have B_n := hS.2
              clear hS
              (try simp only [Act.put, List.setIfInBounds_toArray, List.set_cons_zero, List.set_cons_succ])
              replace g0 := Lib.hid g0
              replace g7 := Lib.hid g7
              replace k11_0 := Lib.hid k11_0
              replace k11_5 := Lib.hid k11_5
              replace k11_6 := Lib.hid k11_6
              replace k12_0 := Lib.hid k12_0
              replace k12_11 := Lib.hid k12_11
              replace k12_5 := Lib.hid k12_5
              replace k12_6 := Lib.hid k12_6
              replace k12_7 := Lib.hid k12_7
              replace k6_0 := Lib.hid k6_0
              replace k6_5 := Lib.hid k6_5
              replace r11 := Lib.hid r11
              replace r12 := Lib.hid r12
              replace r5 := Lib.hid r5
              replace r6 := Lib.hid r6
              go_simp
              refine (C5.out wi Ti2 IT TL ((m2.only U (offLt LF.out (by omega) m2.feet)).ints) (fun q hq => by have := m2.feet q hq; have := U.size; omega)).mono ?_
              rintro e wo ⟨p', n', c', rfl, i', u, T', IT', TS'⟩
              replace B_m := (B_m).only u nF_m
              replace B_n := (B_n).only u nF_n
              exact hK.out _ _ ⟨B_m, B_n⟩ ⟨⟨l0, true, l6, l7, l11, l12, v0, .agg #[.int .i64 cm.1, .int .i64 cm.2.1, .slice p' n' c'], v6, v7, v11, v12, p', n', c', xa, Fa2, pb, nb, cb, xb, Fb2, T'⟩, rfl, by kernel_rfl, (show RunCF w7 F0 I s t s2 t2 xs ys cm cn b1 c1 b2 c2 Ti l0 true l6 l7 l11 l12 v0 (.agg #[.int .i64 cm.1, .int .i64 cm.2.1, .slice p' n' c']) v6 v7 v11 v12 p' n' c' xa Fa2 pb nb cb xb Fb2 T' wo from ⟨((U).trans u), (fun nd6 => (by cases k6_5.out nd6)), (fun nd6 => (by cases k6_5.out nd6)), (fun nd11 => (by cases k11_5.out nd11)), (fun nd11 => (by cases k11_5.out nd11)), (fun nd11 => (by cases k11_5.out nd11)), (fun nd12 => (by cases k12_5.out nd12)), (fun nd12 => (by cases k12_5.out nd12)), (fun nd12 => (by cases k12_5.out nd12)), (fun nd12 => (by cases k12_5.out nd12)), (fun nd12 => (by cases k12_5.out nd12)), (fun nd0 => (g0.out nd0)), (fun nd7 => (g7.out nd7)), (fun nd5 => rfl), (fun nd11 => (by cases k11_5.out nd11)), (fun nd6 => (by cases k6_5.out nd6)), (fun nd12 => (by cases k12_5.out nd12)), (fun nd5 => fun _ => i'), (fun nd11 => (by cases k11_5.out nd11)), (fun nd6 => (by cases k6_5.out nd6)), (fun nd12 => (by cases k12_5.out nd12)), (fun nd6 nd12 => (by cases k6_5.out nd6)), (IT'), (fun q hq => (TS' q hq).1), (fun q hq => (TS' q hq).2.elim (fun h => TS q h) (fun h => h.elim (fun h => Or.inr (Or.inr (Or.inl h))) (fun h => Or.inr (Or.inr (Or.inr (Nat.le_trans U.size h))))))⟩)⟩
            refine StepsI.cons (o := ⟨some 43, _, _, _, _, _⟩) rfl ?_ ?_
            · intro lJ aJ wi K hS hJ hz0 hd hK
              obtain ⟨dJ, hJ⟩ := hJ
              obtain ⟨e1, hJ⟩ := hJ
              obtain ⟨e2, hF⟩ := hJ
              subst e1
              subst e2
              cases dJ with | mk l0 l5 l6 l7 l11 l12 v0 v5 v6 v7 v11 v12 pa na ca xa Fa2 pb nb cb xb Fb2 Ti2 =>
              replace hF : RunCF w7 F0 I s t s2 t2 xs ys cm cn b1 c1 b2 c2 Ti l0 l5 l6 l7 l11 l12 v0 v5 v6 v7 v11 v12 pa na ca xa Fa2 pb nb cb xb Fb2 Ti2 wi := hF
              have U := hF.U
              have k6_0 := hF.k6_0
              have k6_5 := hF.k6_5
              have k11_6 := hF.k11_6
              have k11_0 := hF.k11_0
              have k11_5 := hF.k11_5
              have k12_7 := hF.k12_7
              have k12_11 := hF.k12_11
              have k12_6 := hF.k12_6
              have k12_0 := hF.k12_0
              have k12_5 := hF.k12_5
              have g0 := hF.g0
              have g7 := hF.g7
              have r5 := hF.r5
              have r11 := hF.r11
              have r6 := hF.r6
              have r12 := hF.r12
              have i5 := hF.i5
              have i11 := hF.i11
              have o6 := hF.o6
              have o12 := hF.o12
              have D612 := hF.D612
              have IT := hF.IT
              have TL := hF.TL
              have TS := hF.TS
              clear hF
              have e0 : l6 = false := hz0; subst e0
              have e0 : l0 = true := hd 0 (by kernel_rfl); subst e0
              have e5 : l5 = true := hd 5 (by kernel_rfl); subst e5
              clear hz0 hd
              have B_m := hS.1
              have B_n := hS.2
              clear hS
              (try simp only [Act.put, List.setIfInBounds_toArray, List.set_cons_zero, List.set_cons_succ])
              have g' := g0 rfl; subst g'
              have g' := r5 rfl; subst g'
              replace g0 := Lib.hid g0
              replace g7 := Lib.hid g7
              replace k11_0 := Lib.hid k11_0
              replace k11_5 := Lib.hid k11_5
              replace k11_6 := Lib.hid k11_6
              replace k12_0 := Lib.hid k12_0
              replace k12_11 := Lib.hid k12_11
              replace k12_5 := Lib.hid k12_5
              replace k12_6 := Lib.hid k12_6
              replace k12_7 := Lib.hid k12_7
              replace k6_0 := Lib.hid k6_0
              replace k6_5 := Lib.hid k6_5
              replace r11 := Lib.hid r11
              replace r12 := Lib.hid r12
              replace r5 := Lib.hid r5
              replace r6 := Lib.hid r6
              go_simp
              refine (C6.out wi _ _ _ (oa.only U (offLt LF.out (by omega) oa.feet)).rd (i5 rfl rfl) (LX7.out.only U (fun h0 => (LF.out 0 h0).2 rfl))).mono ?_
              rintro e wo ⟨y', F', rfl, n1, u⟩
              replace B_m := (B_m).below u
              replace B_n := (B_n).below u
              exact hK.out _ _ ⟨B_m, B_n⟩ ⟨⟨true, true, true, l7, l11, l12, .agg #[.int .i64 s.P, .int .i64 s.party, .int .i64 s.input, .int .i64 s.mask, .int .i64 s.delta, .slice xs.sa xs.sn xs.sc, .slice xs.ka xs.kn xs.kc, .int .i64 s.step, .slice xs.ha xs.hn xs.hc, .int .i64 s.status, .int .i64 s.out], .agg #[.int .i64 cm.1, .int .i64 cm.2.1, .slice pa na ca], .agg #[.int .i64 s2.P, .int .i64 s2.party, .int .i64 s2.input, .int .i64 s2.mask, .int .i64 s2.delta, .slice y'.sa y'.sn y'.sc, .slice y'.ka y'.kn y'.kc, .int .i64 s2.step, .slice y'.ha y'.hn y'.hc, .int .i64 s2.status, .int .i64 s2.out], v7, v11, v12, pa, na, ca, y', F', pb, nb, cb, xb, Fb2, Ti2⟩, rfl, by kernel_rfl, (show RunCF w7 F0 I s t s2 t2 xs ys cm cn b1 c1 b2 c2 Ti true true true l7 l11 l12 (.agg #[.int .i64 s.P, .int .i64 s.party, .int .i64 s.input, .int .i64 s.mask, .int .i64 s.delta, .slice xs.sa xs.sn xs.sc, .slice xs.ka xs.kn xs.kc, .int .i64 s.step, .slice xs.ha xs.hn xs.hc, .int .i64 s.status, .int .i64 s.out]) (.agg #[.int .i64 cm.1, .int .i64 cm.2.1, .slice pa na ca]) (.agg #[.int .i64 s2.P, .int .i64 s2.party, .int .i64 s2.input, .int .i64 s2.mask, .int .i64 s2.delta, .slice y'.sa y'.sn y'.sc, .slice y'.ka y'.kn y'.kc, .int .i64 s2.step, .slice y'.ha y'.hn y'.hc, .int .i64 s2.status, .int .i64 s2.out]) v7 v11 v12 pa na ca y' F' pb nb cb xb Fb2 Ti2 wo from ⟨((U).trans (Only.of_below u)), (fun nd6 => rfl), (fun nd6 => rfl), (fun nd11 => (by cases k11_6.out nd11)), (fun nd11 => (by cases k11_6.out nd11)), (fun nd11 => (by cases k11_6.out nd11)), (fun nd12 => (by cases k12_6.out nd12)), (fun nd12 => (by cases k12_6.out nd12)), (fun nd12 => (by cases k12_6.out nd12)), (fun nd12 => (by cases k12_6.out nd12)), (fun nd12 => (by cases k12_6.out nd12)), (fun nd0 => (g0.out nd0)), (fun nd7 => (g7.out nd7)), (fun nd5 => (r5.out nd5)), (fun nd11 => (by cases k11_6.out nd11)), (fun nd6 => rfl), (fun nd12 => (by cases k12_6.out nd12)), (fun nd5 => fun h => by cases h), (fun nd11 => (by cases k11_6.out nd11)), (fun nd6 => n1.lower U.size), (fun nd12 => (by cases k12_6.out nd12)), (fun nd6 nd12 => (by cases k12_6.out nd12)), (LIS.out _ _ _ [] (IT) (Only.of_below u) (fun q _ hq' => by simp at hq') TL), (fun q hq => Nat.lt_of_lt_of_le (TL q hq) u.size), (TS)⟩)⟩
            refine StepsI.cons (o := ⟨some 44, _, _, _, _, _⟩) rfl ?_ ?_
            · intro lJ aJ wi K hS hJ hz0 hd hK
              obtain ⟨dJ, hJ⟩ := hJ
              obtain ⟨e1, hJ⟩ := hJ
              obtain ⟨e2, hF⟩ := hJ
              subst e1
              subst e2
              cases dJ with | mk l0 l5 l6 l7 l11 l12 v0 v5 v6 v7 v11 v12 pa na ca xa Fa2 pb nb cb xb Fb2 Ti2 =>
              replace hF : RunCF w7 F0 I s t s2 t2 xs ys cm cn b1 c1 b2 c2 Ti l0 l5 l6 l7 l11 l12 v0 v5 v6 v7 v11 v12 pa na ca xa Fa2 pb nb cb xb Fb2 Ti2 wi := hF
              have U := hF.U
              have k6_0 := hF.k6_0
              have k6_5 := hF.k6_5
              have k11_6 := hF.k11_6
              have k11_0 := hF.k11_0
              have k11_5 := hF.k11_5
              have k12_7 := hF.k12_7
              have k12_11 := hF.k12_11
              have k12_6 := hF.k12_6
              have k12_0 := hF.k12_0
              have k12_5 := hF.k12_5
              have g0 := hF.g0
              have g7 := hF.g7
              have r5 := hF.r5
              have r11 := hF.r11
              have r6 := hF.r6
              have r12 := hF.r12
              have i5 := hF.i5
              have i11 := hF.i11
              have o6 := hF.o6
              have o12 := hF.o12
              have D612 := hF.D612
              have IT := hF.IT
              have TL := hF.TL
              have TS := hF.TS
              clear hF
              have e0 : l7 = false := hz0; subst e0
              clear hz0 hd
              have B_m := hS.1
              have B_n := hS.2
              clear hS
              (try simp only [Act.put, List.setIfInBounds_toArray, List.set_cons_zero, List.set_cons_succ])
              replace g0 := Lib.hid g0
              replace g7 := Lib.hid g7
              replace k11_0 := Lib.hid k11_0
              replace k11_5 := Lib.hid k11_5
              replace k11_6 := Lib.hid k11_6
              replace k12_0 := Lib.hid k12_0
              replace k12_11 := Lib.hid k12_11
              replace k12_5 := Lib.hid k12_5
              replace k12_6 := Lib.hid k12_6
              replace k12_7 := Lib.hid k12_7
              replace k6_0 := Lib.hid k6_0
              replace k6_5 := Lib.hid k6_5
              replace r11 := Lib.hid r11
              replace r12 := Lib.hid r12
              replace r5 := Lib.hid r5
              replace r6 := Lib.hid r6
              have B_i := B_b.only U nF_b
              have cl0 := B_i.all11
              go_simp
              clear B_i cl0
              exact hK.out _ _ ⟨B_m, B_n⟩ ⟨⟨l0, l5, l6, true, l11, l12, v0, v5, v6, .agg #[.int .i64 t.P, .int .i64 t.party, .int .i64 t.input, .int .i64 t.mask, .int .i64 t.delta, .slice ys.sa ys.sn ys.sc, .slice ys.ka ys.kn ys.kc, .int .i64 t.step, .slice ys.ha ys.hn ys.hc, .int .i64 t.status, .int .i64 t.out], v11, v12, pa, na, ca, xa, Fa2, pb, nb, cb, xb, Fb2, Ti2⟩, rfl, by kernel_rfl, (show RunCF w7 F0 I s t s2 t2 xs ys cm cn b1 c1 b2 c2 Ti l0 l5 l6 true l11 l12 v0 v5 v6 (.agg #[.int .i64 t.P, .int .i64 t.party, .int .i64 t.input, .int .i64 t.mask, .int .i64 t.delta, .slice ys.sa ys.sn ys.sc, .slice ys.ka ys.kn ys.kc, .int .i64 t.step, .slice ys.ha ys.hn ys.hc, .int .i64 t.status, .int .i64 t.out]) v11 v12 pa na ca xa Fa2 pb nb cb xb Fb2 Ti2 wi from ⟨(U), (fun nd6 => (k6_0.out nd6)), (fun nd6 => (k6_5.out nd6)), (fun nd11 => (k11_6.out nd11)), (fun nd11 => (k11_0.out nd11)), (fun nd11 => (k11_5.out nd11)), (fun nd12 => (by cases k12_7.out nd12)), (fun nd12 => (by cases k12_7.out nd12)), (fun nd12 => (by cases k12_7.out nd12)), (fun nd12 => (by cases k12_7.out nd12)), (fun nd12 => (by cases k12_7.out nd12)), (fun nd0 => (g0.out nd0)), (fun nd7 => rfl), (fun nd5 => (r5.out nd5)), (fun nd11 => (r11.out nd11)), (fun nd6 => (r6.out nd6)), (fun nd12 => (by cases k12_7.out nd12)), (fun nd5 => (i5 nd5)), (fun nd11 => (i11 nd11)), (fun nd6 => (o6 nd6)), (fun nd12 => (by cases k12_7.out nd12)), (fun nd6 nd12 => (by cases k12_7.out nd12)), (IT), (TL), (TS)⟩)⟩
            refine StepsI.cons (o := ⟨some 48, _, _, _, _, _⟩) rfl ?_ ?_
            · intro lJ aJ wi K hS hJ hz0 hd hK
              obtain ⟨dJ, hJ⟩ := hJ
              obtain ⟨e1, hJ⟩ := hJ
              obtain ⟨e2, hF⟩ := hJ
              subst e1
              subst e2
              cases dJ with | mk l0 l5 l6 l7 l11 l12 v0 v5 v6 v7 v11 v12 pa na ca xa Fa2 pb nb cb xb Fb2 Ti2 =>
              replace hF : RunCF w7 F0 I s t s2 t2 xs ys cm cn b1 c1 b2 c2 Ti l0 l5 l6 l7 l11 l12 v0 v5 v6 v7 v11 v12 pa na ca xa Fa2 pb nb cb xb Fb2 Ti2 wi := hF
              have U := hF.U
              have k6_0 := hF.k6_0
              have k6_5 := hF.k6_5
              have k11_6 := hF.k11_6
              have k11_0 := hF.k11_0
              have k11_5 := hF.k11_5
              have k12_7 := hF.k12_7
              have k12_11 := hF.k12_11
              have k12_6 := hF.k12_6
              have k12_0 := hF.k12_0
              have k12_5 := hF.k12_5
              have g0 := hF.g0
              have g7 := hF.g7
              have r5 := hF.r5
              have r11 := hF.r11
              have r6 := hF.r6
              have r12 := hF.r12
              have i5 := hF.i5
              have i11 := hF.i11
              have o6 := hF.o6
              have o12 := hF.o12
              have D612 := hF.D612
              have IT := hF.IT
              have TL := hF.TL
              have TS := hF.TS
              clear hF
              have e0 : l11 = false := hz0; subst e0
              have e6 : l6 = true := hd 6 (by kernel_rfl); subst e6
              have e0 : l0 = true := k6_0 rfl; subst e0
              have e5 : l5 = true := k6_5 rfl; subst e5
              clear hz0 hd
              have B_m := hS.1
              have B_n := hS.2
              clear hS
              (try simp only [Act.put, List.setIfInBounds_toArray, List.set_cons_zero, List.set_cons_succ])
              replace g0 := Lib.hid g0
              replace g7 := Lib.hid g7
              replace k11_0 := Lib.hid k11_0
              replace k11_5 := Lib.hid k11_5
              replace k11_6 := Lib.hid k11_6
              replace k12_0 := Lib.hid k12_0
              replace k12_11 := Lib.hid k12_11
              replace k12_5 := Lib.hid k12_5
              replace k12_6 := Lib.hid k12_6
              replace k12_7 := Lib.hid k12_7
              replace k6_0 := Lib.hid k6_0
              replace k6_5 := Lib.hid k6_5
              replace r11 := Lib.hid r11
              replace r12 := Lib.hid r12
              replace r5 := Lib.hid r5
              replace r6 := Lib.hid r6
              go_simp
              refine (C11.out wi Ti2 IT TL ((m1.only U (offLt LF.out (by omega) m1.feet)).ints) (fun q hq => by have := m1.feet q hq; have := U.size; omega)).mono ?_
              rintro e wo ⟨p', n', c', rfl, i', u, T', IT', TS'⟩
              replace B_m := (B_m).only u nF_m
              replace B_n := (B_n).only u nF_n
              exact hK.out _ _ ⟨B_m, B_n⟩ ⟨⟨true, true, true, l7, true, l12, v0, v5, v6, v7, .agg #[.int .i64 cn.1, .int .i64 cn.2.1, .slice p' n' c'], v12, pa, na, ca, xa, Fa2, p', n', c', xb, Fb2, T'⟩, rfl, by kernel_rfl, (show RunCF w7 F0 I s t s2 t2 xs ys cm cn b1 c1 b2 c2 Ti true true true l7 true l12 v0 v5 v6 v7 (.agg #[.int .i64 cn.1, .int .i64 cn.2.1, .slice p' n' c']) v12 pa na ca xa Fa2 p' n' c' xb Fb2 T' wo from ⟨((U).trans u), (fun nd6 => (k6_0.out nd6)), (fun nd6 => (k6_5.out nd6)), (fun nd11 => rfl), (fun nd11 => rfl), (fun nd11 => rfl), (fun nd12 => (by cases k12_11.out nd12)), (fun nd12 => (by cases k12_11.out nd12)), (fun nd12 => (by cases k12_11.out nd12)), (fun nd12 => (by cases k12_11.out nd12)), (fun nd12 => (by cases k12_11.out nd12)), (fun nd0 => (g0.out nd0)), (fun nd7 => (g7.out nd7)), (fun nd5 => (r5.out nd5)), (fun nd11 => rfl), (fun nd6 => (r6.out nd6)), (fun nd12 => (by cases k12_11.out nd12)), (fun nd5 => fun h6 => (by cases h6)), (fun nd11 => fun _ => i'), (fun nd6 => ((o6 nd6)).only u (offLt LF.out (by omega) ((o6 nd6)).feet)), (fun nd12 => (by cases k12_11.out nd12)), (fun nd6 nd12 => (by cases k12_11.out nd12)), (IT'), (fun q hq => (TS' q hq).1), (fun q hq => (TS' q hq).2.elim (fun h => TS q h) (fun h => h.elim (fun h => Or.inr (Or.inl h)) (fun h => Or.inr (Or.inr (Or.inr (Nat.le_trans U.size h))))))⟩)⟩
            refine StepsI.cons (o := ⟨some 49, _, _, _, _, _⟩) rfl ?_ ?_
            · intro lJ aJ wi K hS hJ hz0 hd hK
              obtain ⟨dJ, hJ⟩ := hJ
              obtain ⟨e1, hJ⟩ := hJ
              obtain ⟨e2, hF⟩ := hJ
              subst e1
              subst e2
              cases dJ with | mk l0 l5 l6 l7 l11 l12 v0 v5 v6 v7 v11 v12 pa na ca xa Fa2 pb nb cb xb Fb2 Ti2 =>
              replace hF : RunCF w7 F0 I s t s2 t2 xs ys cm cn b1 c1 b2 c2 Ti l0 l5 l6 l7 l11 l12 v0 v5 v6 v7 v11 v12 pa na ca xa Fa2 pb nb cb xb Fb2 Ti2 wi := hF
              have U := hF.U
              have k6_0 := hF.k6_0
              have k6_5 := hF.k6_5
              have k11_6 := hF.k11_6
              have k11_0 := hF.k11_0
              have k11_5 := hF.k11_5
              have k12_7 := hF.k12_7
              have k12_11 := hF.k12_11
              have k12_6 := hF.k12_6
              have k12_0 := hF.k12_0
              have k12_5 := hF.k12_5
              have g0 := hF.g0
              have g7 := hF.g7
              have r5 := hF.r5
              have r11 := hF.r11
              have r6 := hF.r6
              have r12 := hF.r12
              have i5 := hF.i5
              have i11 := hF.i11
              have o6 := hF.o6
              have o12 := hF.o12
              have D612 := hF.D612
              have IT := hF.IT
              have TL := hF.TL
              have TS := hF.TS
              clear hF
              have e0 : l12 = false := hz0; subst e0
              have e7 : l7 = true := hd 7 (by kernel_rfl); subst e7
              have e11 : l11 = true := hd 11 (by kernel_rfl); subst e11
              have e6 : l6 = true := k11_6 rfl; subst e6
              have e0 : l0 = true := k11_0 rfl; subst e0
              have e5 : l5 = true := k11_5 rfl; subst e5
              clear hz0 hd
              have B_m := hS.1
              have B_n := hS.2
              clear hS
              (try simp only [Act.put, List.setIfInBounds_toArray, List.set_cons_zero, List.set_cons_succ])
              have g' := g7 rfl; subst g'
              have g' := r11 rfl; subst g'
              replace g0 := Lib.hid g0
              replace g7 := Lib.hid g7
              replace k11_0 := Lib.hid k11_0
              replace k11_5 := Lib.hid k11_5
              replace k11_6 := Lib.hid k11_6
              replace k12_0 := Lib.hid k12_0
              replace k12_11 := Lib.hid k12_11
              replace k12_5 := Lib.hid k12_5
              replace k12_6 := Lib.hid k12_6
              replace k12_7 := Lib.hid k12_7
              replace k6_0 := Lib.hid k6_0
              replace k6_5 := Lib.hid k6_5
              replace r11 := Lib.hid r11
              replace r12 := Lib.hid r12
              replace r5 := Lib.hid r5
              replace r6 := Lib.hid r6
              go_simp
              refine (C12.out wi _ _ _ (ob.only U (offLt LF.out (by omega) ob.feet)).rd (i11 rfl rfl) (LX7.out.only U (fun h0 => (LF.out 0 h0).2 rfl))).mono ?_
              rintro e wo ⟨y', F', rfl, n1, u⟩
              replace B_m := (B_m).below u
              replace B_n := (B_n).below u
              exact hK.out _ _ ⟨B_m, B_n⟩ ⟨⟨true, true, true, true, true, true, v0, v5, v6, .agg #[.int .i64 t.P, .int .i64 t.party, .int .i64 t.input, .int .i64 t.mask, .int .i64 t.delta, .slice ys.sa ys.sn ys.sc, .slice ys.ka ys.kn ys.kc, .int .i64 t.step, .slice ys.ha ys.hn ys.hc, .int .i64 t.status, .int .i64 t.out], .agg #[.int .i64 cn.1, .int .i64 cn.2.1, .slice pb nb cb], .agg #[.int .i64 t2.P, .int .i64 t2.party, .int .i64 t2.input, .int .i64 t2.mask, .int .i64 t2.delta, .slice y'.sa y'.sn y'.sc, .slice y'.ka y'.kn y'.kc, .int .i64 t2.step, .slice y'.ha y'.hn y'.hc, .int .i64 t2.status, .int .i64 t2.out], pa, na, ca, xa, Fa2, pb, nb, cb, y', F', Ti2⟩, rfl, by kernel_rfl, (show RunCF w7 F0 I s t s2 t2 xs ys cm cn b1 c1 b2 c2 Ti true true true true true true v0 v5 v6 (.agg #[.int .i64 t.P, .int .i64 t.party, .int .i64 t.input, .int .i64 t.mask, .int .i64 t.delta, .slice ys.sa ys.sn ys.sc, .slice ys.ka ys.kn ys.kc, .int .i64 t.step, .slice ys.ha ys.hn ys.hc, .int .i64 t.status, .int .i64 t.out]) (.agg #[.int .i64 cn.1, .int .i64 cn.2.1, .slice pb nb cb]) (.agg #[.int .i64 t2.P, .int .i64 t2.party, .int .i64 t2.input, .int .i64 t2.mask, .int .i64 t2.delta, .slice y'.sa y'.sn y'.sc, .slice y'.ka y'.kn y'.kc, .int .i64 t2.step, .slice y'.ha y'.hn y'.hc, .int .i64 t2.status, .int .i64 t2.out]) pa na ca xa Fa2 pb nb cb y' F' Ti2 wo from ⟨((U).trans (Only.of_below u)), (fun nd6 => (k6_0.out nd6)), (fun nd6 => (k6_5.out nd6)), (fun nd11 => (k11_6.out nd11)), (fun nd11 => (k11_0.out nd11)), (fun nd11 => (k11_5.out nd11)), (fun nd12 => rfl), (fun nd12 => rfl), (fun nd12 => rfl), (fun nd12 => rfl), (fun nd12 => rfl), (fun nd0 => (g0.out nd0)), (fun nd7 => (g7.out nd7)), (fun nd5 => (r5.out nd5)), (fun nd11 => (r11.out nd11)), (fun nd6 => (r6.out nd6)), (fun nd12 => rfl), (fun nd5 => fun h6 => ((i5 nd5) h6).below u), (fun nd11 => fun h => by cases h), (fun nd6 => ((o6 nd6)).below u), (fun nd12 => n1.lower U.size), (fun nd6 nd12 => fun q hq hq' => by have := (o6 rfl).feet q hq; have := n1.feet q hq'; omega), (LIS.out _ _ _ [] (IT) (Only.of_below u) (fun q _ hq' => by simp at hq') TL), (fun q hq => Nat.lt_of_lt_of_le (TL q hq) u.size), (TS)⟩)⟩
            exact StepsI.nil
          case he =>
            intro aJ wc hS hJ
            obtain ⟨dJ, hJ⟩ := hJ
            obtain ⟨hl, hJ⟩ := hJ
            obtain ⟨e2, hF⟩ := hJ
            subst e2
            cases dJ with | mk l0 l5 l6 l7 l11 l12 v0 v5 v6 v7 v11 v12 pa na ca xa Fa2 pb nb cb xb Fb2 Ti2 =>
            replace hF : RunCF w7 F0 I s t s2 t2 xs ys cm cn b1 c1 b2 c2 Ti l0 l5 l6 l7 l11 l12 v0 v5 v6 v7 v11 v12 pa na ca xa Fa2 pb nb cb xb Fb2 Ti2 wc := hF
            have U := hF.U
            have k6_0 := hF.k6_0
            have k6_5 := hF.k6_5
            have k11_6 := hF.k11_6
            have k11_0 := hF.k11_0
            have k11_5 := hF.k11_5
            have k12_7 := hF.k12_7
            have k12_11 := hF.k12_11
            have k12_6 := hF.k12_6
            have k12_0 := hF.k12_0
            have k12_5 := hF.k12_5
            have g0 := hF.g0
            have g7 := hF.g7
            have r5 := hF.r5
            have r11 := hF.r11
            have r6 := hF.r6
            have r12 := hF.r12
            have i5 := hF.i5
            have i11 := hF.i11
            have o6 := hF.o6
            have o12 := hF.o12
            have D612 := hF.D612
            have IT := hF.IT
            have TL := hF.TL
            have TS := hF.TS
            clear hF
            have e0 : true = l0 := congrArg (fun q : Array Bool => q.getD 0 true) hl; subst e0
            have e5 : true = l5 := congrArg (fun q : Array Bool => q.getD 5 true) hl; subst e5
            have e6 : true = l6 := congrArg (fun q : Array Bool => q.getD 6 true) hl; subst e6
            have e7 : true = l7 := congrArg (fun q : Array Bool => q.getD 7 true) hl; subst e7
            have e11 : true = l11 := congrArg (fun q : Array Bool => q.getD 11 true) hl; subst e11
            have e12 : true = l12 := congrArg (fun q : Array Bool => q.getD 12 true) hl; subst e12
            clear hl k6_0 k6_5 k11_6 k11_0 k11_5 k12_7 k12_11 k12_6 k12_0 k12_5
            replace g0 := g0 rfl
            replace g7 := g7 rfl
            replace r5 := r5 rfl
            replace r11 := r11 rfl
            replace r6 := r6 rfl
            replace r12 := r12 rfl
            replace i5 := i5 rfl
            replace i11 := i11 rfl
            replace o6 := o6 rfl
            replace o12 := o12 rfl
            replace D612 := D612 rfl rfl
            have hHeld := hS
            have B_m := hS.1
            have B_n := hS.2
            clear hS
            (try simp only [Act.put, List.setIfInBounds_toArray, List.set_cons_zero, List.set_cons_succ])
            subst g0 g7 r5 r11 r6 r12
            clear i5 i11
            replace B_a := B_a.only U nF_a
            replace B_b := B_b.only U nF_b
            replace B_r := B_r.only U (fun hq => by have := LF.out _ hq; omega)
            replace B_q := B_q.only U (fun hq => by have := LF.out _ hq; omega)
            replace om' := om'.only U (offLt LF.out (by omega) om'.feet)
            have Q_o6 := Lib.hid o6.feet
            have Q_o12 := Lib.hid o12.feet
            have Q_om' := Lib.hid om'.feet
            have Q_om7 : Hid (∀ q ∈ Fm', w.heap.size + 4 ≤ q ∧ q < w7.heap.size) := Lib.hid Q_om7'.out
            have SU := U.size
            have G_all : Only [w.heap.size, w.heap.size + 1] wc wc := Only.refl _ _
            refine wpAnyH_ready (rs := [13]) (by kernel_rfl) (by simp) ?_
            refine AllReadyH.cons (o := ⟨none, _, _, _, _, _⟩) rfl (fun K hK => ?_) ?_
            refine step_st B_a (by simp [Region.wanted]) _ _ _ (by rfl) (by rfl) (by rfl) (by kernel_rfl) (by rfl) (by simp [Value.oneCell']) ?_
            intro wS13 B_a' G
            replace B_a := B_a'; clear B_a'
            replace B_b := B_b.only G (by first | (simp; done) | (simp; omega))
            replace B_r := B_r.only G (by first | (simp; done) | (simp; omega))
            replace B_q := B_q.only G (by first | (simp; done) | (simp; omega))
            replace B_m := B_m.only G (by first | (simp; done) | (simp; omega))
            replace B_n := B_n.only G (by first | (simp; done) | (simp; omega))
            replace o6 := o6.only G (fun q hq hq' => by have := Q_o6.out q hq; simp at hq'; omega)
            replace o12 := o12.only G (fun q hq hq' => by have := Q_o12.out q hq; simp at hq'; omega)
            replace om' := om'.only G (fun q hq hq' => by have := Q_om'.out q hq; simp at hq'; omega)
            replace G_all := G_all.trans (G.more (F' := [w.heap.size, w.heap.size + 1]) (by simp))
            clear G
            refine hK.out _ _ ?_ (fun hHeld => ?_)
            · exact ⟨B_m, B_n⟩
            clear hK K
            (try simp only [pt_])
            refine wpAnyH_ready (rs := [14]) (by kernel_rfl) (by simp) ?_
            refine AllReadyH.cons (o := ⟨none, _, _, _, _, _⟩) rfl (fun K hK => ?_) ?_
            refine step_st B_b (by simp [Region.wanted]) _ _ _ (by rfl) (by rfl) (by rfl) (by kernel_rfl) (by rfl) (by simp [Value.oneCell']) ?_
            intro wS14 B_b' G
            replace B_b := B_b'; clear B_b'
            replace B_a := B_a.only G (by first | (simp; done) | (simp; omega))
            replace B_r := B_r.only G (by first | (simp; done) | (simp; omega))
            replace B_q := B_q.only G (by first | (simp; done) | (simp; omega))
            replace B_m := B_m.only G (by first | (simp; done) | (simp; omega))
            replace B_n := B_n.only G (by first | (simp; done) | (simp; omega))
            replace o6 := o6.only G (fun q hq hq' => by have := Q_o6.out q hq; simp at hq'; omega)
            replace o12 := o12.only G (fun q hq hq' => by have := Q_o12.out q hq; simp at hq'; omega)
            replace om' := om'.only G (fun q hq hq' => by have := Q_om'.out q hq; simp at hq'; omega)
            replace G_all := G_all.trans (G.more (F' := [w.heap.size, w.heap.size + 1]) (by simp))
            clear G
            refine hK.out _ _ ?_ (fun hHeld => ?_)
            · exact ⟨B_m, B_n⟩
            clear hK K
            (try simp only [pt_])
            refine wpAnyH_done (by kernel_rfl) ?_ _
            refine NoPanic.normal ?_
            rotate_left 1
            exact AllReadyH.nil
            exact AllReadyH.nil
            have G8 := G_all
            clear G_all
            have SG8 := G8.size
            have nm1 : ∀ q ∈ foot b1 c1, wr.heap.size ≤ q := fun q hq => (Q_m1.out q hq).1
            have nm2 : ∀ q ∈ foot b2 c2, wr.heap.size ≤ q := fun q hq => (Q_m2.out q hq).1
            have V8 : Only F0 w wS14 := (V7.trans U).thn G8 (fun q hq => Or.inl (by simp at hq; omega))
            have T8 : ∀ q ∈ Ti2, q < w7.heap.size ∧ (q < w.heap.size ∨ w.heap.size + 4 ≤ q) ∨ w7.heap.size ≤ q := fun q hq => by
              rcases TS q hq with h | h | h | h
              · have := hTl.out q h; have := TL7 q h; omega
              · have := Q_m1.out q h; omega
              · have := Q_m2.out q h; omega
              · exact Or.inr h
            have T8b : Disj Ti2 (foot a5 c5) := fun q hq hq5 => by
              rcases TS q hq with h | h | h | h
              · exact hT7 q h hq5
              · exact h15 q h hq5
              · exact h25 q h hq5
              · have := (Q_o5.out q hq5).2; omega
            have IT8 : I wS14 Ti2 := LIS.out _ _ _ _ IT G8 (fun q hq hq' => by have := T8 q hq; simp at hq'; omega) TL
            have TL8 : ∀ q ∈ Ti2, q < wS14.heap.size := fun q hq => Nat.lt_of_lt_of_le (TL q hq) G8.size
            replace o6 := o6.lower (b' := w.heap.size + 4) (by omega)
            replace o12 := o12.lower (b' := w.heap.size + 4) (by omega)
            have d6m : Disj Fa2 Fm' := fun q hq hq' => by have := Q_o6.out q hq; have := Q_om7.out q hq'; omega
            have d12m : Disj Fb2 Fm' := fun q hq hq' => by have := Q_o12.out q hq; have := Q_om7.out q hq'; omega
            have stp : s2 = takeM s cm ∧ t2 = takeM t cn := ⟨hs2.out.symm, ht2.out.symm⟩
            have n2 : PlN s2 ∧ PlN t2 := by rw [stp.1, stp.2]; exact takeM_n LRS.out (by omega) cm cn
            replace stp := Lib.hid stp
            replace n2 := Lib.hid n2
            have RPn : Hid (s2.status = 2 ∨ t2.status = 2 → RP = (s2, t2, D ++ [(0, s.step, bodyL s), (1, t.step, bodyL t)])) := Lib.hid (fun hh => by
              rw [hRP2.out, show 3 - k = (2 - k) + 1 by omega]
              unfold runP
              have e1 : takeM s (chg ((D.length : Int) + 1) (mesP 1 t)) = s2 := by rw [stp.out.1, ← hcm.out, hDl.out]; rfl
              have e2 : takeM t (chg (D.length : Int) (mesP 0 s)) = t2 := by rw [stp.out.2, ← hcn.out, hDl.out]; rfl
              dsimp only
              rw [e1, e2, if_pos hh]; rfl)
            have RPg : Hid (¬ (s2.status = 2 ∨ t2.status = 2) → RP = runP chg (2 - k) s2 t2 (D ++ [(0, s.step, bodyL s), (1, t.step, bodyL t)])) := Lib.hid (fun hh => by
              rw [hRP2.out, show 3 - k = (2 - k) + 1 by omega]
              conv => lhs; unfold runP
              have e1 : takeM s (chg ((D.length : Int) + 1) (mesP 1 t)) = s2 := by rw [stp.out.1, ← hcm.out, hDl.out]; rfl
              have e2 : takeM t (chg (D.length : Int) (mesP 0 s)) = t2 := by rw [stp.out.2, ← hcn.out, hDl.out]; rfl
              dsimp only
              rw [e1, e2, if_neg hh]; rfl)
            have TI8 : ∀ q ∈ Ti2, q < wS14.heap.size ∧ (q < w.heap.size ∨ w.heap.size + 4 ≤ q) := fun q hq => by have := T8 q hq; have := TL8 q hq; omega
            have KP : w.heap.size + 4 ≤ wS14.heap.size := by omega
            clear U SG SG8 SU G8 TS TL T8 nm1 nm2 hf SZ SZr S_wA oa ob m1 m2 IT IT7 TL7 h15 h25 hT7 dam' dbm' NM s7
            have e_a := B_a.cell 9
            have e_b := B_b.cell 9
            by_cases hc1 : s2.status = 2
            · have d1 : ((s2.status == 2) : Bool) = true := by simpa using hc1
              have RPX := Lib.hid (RPn.out (Or.inl hc1))
              replace hc1 := Lib.hid hc1
              have Q_o6 := Lib.hid o6.feet
              have Q_o12 := Lib.hid o12.feet
              have Q_om' := Lib.hid om'.feet
              go_upto_region 11 with fail
              replace B_a := Blk.drew B_a
              replace B_b := Blk.drew B_b
              replace B_r := Blk.drew B_r
              replace B_q := Blk.drew B_q
              replace o6 := o6.drew
              replace o12 := o12.drew
              replace om' := om'.drew
              refine wp_region_noPanic ?_
              refine wp_region_held_drew (S := (fun W => Blk W (w.heap.size) 31 #[.int .i64 s2.P, .int .i64 s2.party, .int .i64 s2.input, .int .i64 s2.mask, .int .i64 s2.delta, .slice xa.sa xa.sn xa.sc, .slice xa.ka xa.kn xa.kc, .int .i64 s2.step, .slice xa.ha xa.hn xa.hc, .int .i64 s2.status, .int .i64 s2.out] ∧ Blk W (w.heap.size + 1) 31 #[.int .i64 t2.P, .int .i64 t2.party, .int .i64 t2.input, .int .i64 t2.mask, .int .i64 t2.delta, .slice xb.sa xb.sn xb.sc, .slice xb.ka xb.kn xb.kc, .int .i64 t2.step, .slice xb.ha xb.hn xb.hc, .int .i64 t2.status, .int .i64 t2.out])) (by kernel_rfl) ?hS17 (fun hHeld => ?go17)
              case hS17 => exact ⟨B_a, B_b⟩
              refine tk (i := 0) (oi := ⟨some 59, _, _, _, _, _⟩) (v := ?v0_18) hHeld rfl ?y0_18 ?r0_18
              case y0_18 => (intro w hSw; obtain ⟨qS0, qS1⟩ := hSw; have cS0 := qS0.all11; have cS1 := qS1.all11; first | (go_simp; first | done | with_reducible rfl) | with_reducible rfl)
              (try simp only [pt_])
              refine tk (i := 1) (oi := ⟨some 60, _, _, _, _, _⟩) (v := ?v1_19) hHeld rfl ?y1_19 ?r1_19
              case y1_19 => (intro w hSw; obtain ⟨qS0, qS1⟩ := hSw; have cS0 := qS0.all11; have cS1 := qS1.all11; first | (go_simp; first | done | with_reducible rfl) | with_reducible rfl)
              (try simp only [pt_])
              refine tk (i := 2) (oi := ⟨some 61, _, _, _, _, _⟩) (v := ?v2_20) hHeld rfl ?y2_20 ?r2_20
              case y2_20 => (intro w _; first | (go_simp; first | done | with_reducible rfl) | with_reducible rfl)
              (try simp only [pt_])
              have wdS := (Nat.le_refl wS14.heap.size : wS14.heap.size ≤ wS14.drew.heap.size)
              generalize hwd : wS14.drew = wd at *
              have G_all : Only [w.heap.size + 2, w.heap.size + 3] wd wd := Only.refl _ _
              refine wpAnyH_ready (rs := [3]) (by kernel_rfl) (by simp) ?_
              refine AllReadyH.cons (o := ⟨none, _, _, _, _, _⟩) rfl (fun K hK => ?_) ?_
              refine step_st B_r (by simp [Region.wanted]) _ _ _ (by rfl) (by rfl) (by rfl) (by kernel_rfl) (by rfl) (by simp [Value.oneCell']) ?_
              intro wS3 B_r' G
              replace B_r := B_r'; clear B_r'
              replace B_a := B_a.only G (by first | (simp; done) | (simp; omega))
              replace B_b := B_b.only G (by first | (simp; done) | (simp; omega))
              replace B_q := B_q.only G (by first | (simp; done) | (simp; omega))
              replace o6 := o6.only G (fun q hq hq' => by have := Q_o6.out q hq; simp at hq'; omega)
              replace o12 := o12.only G (fun q hq hq' => by have := Q_o12.out q hq; simp at hq'; omega)
              replace om' := om'.only G (fun q hq hq' => by have := Q_om'.out q hq; simp at hq'; omega)
              replace G_all := G_all.trans (G.more (F' := [w.heap.size + 2, w.heap.size + 3]) (by simp))
              clear G
              refine hK.out _ _ ?_ (fun hHeld => ?_)
              · exact ⟨B_a, B_b⟩
              clear hK K
              (try simp only [pt_])
              refine wpAnyH_ready (rs := [4]) (by kernel_rfl) (by simp) ?_
              refine AllReadyH.cons (o := ⟨none, _, _, _, _, _⟩) rfl (fun K hK => ?_) ?_
              refine step_st B_q (by simp [Region.wanted]) _ _ _ (by rfl) (by rfl) (by rfl) (by kernel_rfl) (by rfl) (by simp [Value.oneCell']) ?_
              intro wS4 B_q' G
              replace B_q := B_q'; clear B_q'
              replace B_a := B_a.only G (by first | (simp; done) | (simp; omega))
              replace B_b := B_b.only G (by first | (simp; done) | (simp; omega))
              replace B_r := B_r.only G (by first | (simp; done) | (simp; omega))
              replace o6 := o6.only G (fun q hq hq' => by have := Q_o6.out q hq; simp at hq'; omega)
              replace o12 := o12.only G (fun q hq hq' => by have := Q_o12.out q hq; simp at hq'; omega)
              replace om' := om'.only G (fun q hq hq' => by have := Q_om'.out q hq; simp at hq'; omega)
              replace G_all := G_all.trans (G.more (F' := [w.heap.size + 2, w.heap.size + 3]) (by simp))
              clear G
              refine hK.out _ _ ?_ (fun hHeld => ?_)
              · exact ⟨B_a, B_b⟩
              clear hK K
              (try simp only [pt_])
              refine tk (i := 5) (oi := ⟨some 8, _, _, _, _, _⟩) (v := ?v5_21) hHeld rfl ?y5_21 ?r5_21
              case y5_21 => (intro w _; first | (go_simp; first | done | with_reducible rfl) | with_reducible rfl)
              (try simp only [pt_])
              refine wpAnyH_done (by kernel_rfl) ?_ _
              refine NoPanic.normal ?_
              rotate_left 1
              exact AllReadyH.nil
              exact AllReadyH.nil
              have GE := (Only.refl [w.heap.size + 2, w.heap.size + 3] wS14).drew.trans (hwd ▸ G_all)
              clear hwd G_all hHeld wdS
              refine (‹∀ (a : Act) (w : World), Code.wp Tryd.prog Code.ret _ a w → _›) _ _ ?_
              refine wp_ret ?_
              have VE := (V8).thn GE (fun q hq => Or.inl (by simp at hq; omega))
              have IE := LIS.out _ _ _ _ IT8 GE (fun q hq hq' => by have := TI8 q hq; simp at hq'; omega) (fun q hq => (TI8 q hq).1)
              have SGE := GE.size
              have e_r := B_r.all11
              have e_q := B_q.all11
              have EE := RPX.out
              subst EE
              exact bodyPost_ret (v := .tuple #[.agg #[.int .i64 s2.P, .int .i64 s2.party, .int .i64 s2.input, .int .i64 s2.mask, .int .i64 s2.delta, .slice xa.sa xa.sn xa.sc, .slice xa.ka xa.kn xa.kc, .int .i64 s2.step, .slice xa.ha xa.hn xa.hc, .int .i64 s2.status, .int .i64 s2.out], .agg #[.int .i64 t2.P, .int .i64 t2.party, .int .i64 t2.input, .int .i64 t2.mask, .int .i64 t2.delta, .slice xb.sa xb.sn xb.sc, .slice xb.ka xb.kn xb.kc, .int .i64 t2.step, .slice xb.ha xb.hn xb.hc, .int .i64 t2.status, .int .i64 t2.out], .slice a5 (N + 2) c5]) (by simp [results, Tryd.results84, go_sem, e_r, e_q]) rfl ⟨xa, Fa2, xb, Fb2, a5, N + 2, c5, Fm', rfl, o6.lower (by omega), o12.lower (by omega), om'.lower (by omega), D612, d6m, d12m, VE, _, IE, fun q hq => Nat.lt_of_lt_of_le (TI8 q hq).1 SGE⟩
            · have d1 : ((s2.status == 2) : Bool) = false := by simpa using hc1
              by_cases hc2 : t2.status = 2
              · have d2 : ((t2.status == 2) : Bool) = true := by simpa using hc2
                have RPX := Lib.hid (RPn.out (Or.inr hc2))
                replace hc1 := Lib.hid hc1
                replace hc2 := Lib.hid hc2
                have Q_o6 := Lib.hid o6.feet
                have Q_o12 := Lib.hid o12.feet
                have Q_om' := Lib.hid om'.feet
                go_upto_region 11 with fail
                replace B_a := Blk.drew B_a
                replace B_b := Blk.drew B_b
                replace B_r := Blk.drew B_r
                replace B_q := Blk.drew B_q
                replace o6 := o6.drew
                replace o12 := o12.drew
                replace om' := om'.drew
                refine wp_region_noPanic ?_
                refine wp_region_held_drew (S := (fun W => Blk W (w.heap.size) 31 #[.int .i64 s2.P, .int .i64 s2.party, .int .i64 s2.input, .int .i64 s2.mask, .int .i64 s2.delta, .slice xa.sa xa.sn xa.sc, .slice xa.ka xa.kn xa.kc, .int .i64 s2.step, .slice xa.ha xa.hn xa.hc, .int .i64 s2.status, .int .i64 s2.out] ∧ Blk W (w.heap.size + 1) 31 #[.int .i64 t2.P, .int .i64 t2.party, .int .i64 t2.input, .int .i64 t2.mask, .int .i64 t2.delta, .slice xb.sa xb.sn xb.sc, .slice xb.ka xb.kn xb.kc, .int .i64 t2.step, .slice xb.ha xb.hn xb.hc, .int .i64 t2.status, .int .i64 t2.out])) (by kernel_rfl) ?hS22 (fun hHeld => ?go22)
                case hS22 => exact ⟨B_a, B_b⟩
                refine tk (i := 0) (oi := ⟨some 59, _, _, _, _, _⟩) (v := ?v0_23) hHeld rfl ?y0_23 ?r0_23
                case y0_23 => (intro w hSw; obtain ⟨qS0, qS1⟩ := hSw; have cS0 := qS0.all11; have cS1 := qS1.all11; first | (go_simp; first | done | with_reducible rfl) | with_reducible rfl)
                (try simp only [pt_])
                refine tk (i := 1) (oi := ⟨some 60, _, _, _, _, _⟩) (v := ?v1_24) hHeld rfl ?y1_24 ?r1_24
                case y1_24 => (intro w hSw; obtain ⟨qS0, qS1⟩ := hSw; have cS0 := qS0.all11; have cS1 := qS1.all11; first | (go_simp; first | done | with_reducible rfl) | with_reducible rfl)
                (try simp only [pt_])
                refine tk (i := 2) (oi := ⟨some 61, _, _, _, _, _⟩) (v := ?v2_25) hHeld rfl ?y2_25 ?r2_25
                case y2_25 => (intro w _; first | (go_simp; first | done | with_reducible rfl) | with_reducible rfl)
                (try simp only [pt_])
                have wdS := (Nat.le_refl wS14.heap.size : wS14.heap.size ≤ wS14.drew.heap.size)
                generalize hwd : wS14.drew = wd at *
                have G_all : Only [w.heap.size + 2, w.heap.size + 3] wd wd := Only.refl _ _
                refine wpAnyH_ready (rs := [3]) (by kernel_rfl) (by simp) ?_
                refine AllReadyH.cons (o := ⟨none, _, _, _, _, _⟩) rfl (fun K hK => ?_) ?_
                refine step_st B_r (by simp [Region.wanted]) _ _ _ (by rfl) (by rfl) (by rfl) (by kernel_rfl) (by rfl) (by simp [Value.oneCell']) ?_
                intro wS3 B_r' G
                replace B_r := B_r'; clear B_r'
                replace B_a := B_a.only G (by first | (simp; done) | (simp; omega))
                replace B_b := B_b.only G (by first | (simp; done) | (simp; omega))
                replace B_q := B_q.only G (by first | (simp; done) | (simp; omega))
                replace o6 := o6.only G (fun q hq hq' => by have := Q_o6.out q hq; simp at hq'; omega)
                replace o12 := o12.only G (fun q hq hq' => by have := Q_o12.out q hq; simp at hq'; omega)
                replace om' := om'.only G (fun q hq hq' => by have := Q_om'.out q hq; simp at hq'; omega)
                replace G_all := G_all.trans (G.more (F' := [w.heap.size + 2, w.heap.size + 3]) (by simp))
                clear G
                refine hK.out _ _ ?_ (fun hHeld => ?_)
                · exact ⟨B_a, B_b⟩
                clear hK K
                (try simp only [pt_])
                refine wpAnyH_ready (rs := [4]) (by kernel_rfl) (by simp) ?_
                refine AllReadyH.cons (o := ⟨none, _, _, _, _, _⟩) rfl (fun K hK => ?_) ?_
                refine step_st B_q (by simp [Region.wanted]) _ _ _ (by rfl) (by rfl) (by rfl) (by kernel_rfl) (by rfl) (by simp [Value.oneCell']) ?_
                intro wS4 B_q' G
                replace B_q := B_q'; clear B_q'
                replace B_a := B_a.only G (by first | (simp; done) | (simp; omega))
                replace B_b := B_b.only G (by first | (simp; done) | (simp; omega))
                replace B_r := B_r.only G (by first | (simp; done) | (simp; omega))
                replace o6 := o6.only G (fun q hq hq' => by have := Q_o6.out q hq; simp at hq'; omega)
                replace o12 := o12.only G (fun q hq hq' => by have := Q_o12.out q hq; simp at hq'; omega)
                replace om' := om'.only G (fun q hq hq' => by have := Q_om'.out q hq; simp at hq'; omega)
                replace G_all := G_all.trans (G.more (F' := [w.heap.size + 2, w.heap.size + 3]) (by simp))
                clear G
                refine hK.out _ _ ?_ (fun hHeld => ?_)
                · exact ⟨B_a, B_b⟩
                clear hK K
                (try simp only [pt_])
                refine tk (i := 5) (oi := ⟨some 8, _, _, _, _, _⟩) (v := ?v5_26) hHeld rfl ?y5_26 ?r5_26
                case y5_26 => (intro w _; first | (go_simp; first | done | with_reducible rfl) | with_reducible rfl)
                (try simp only [pt_])
                refine wpAnyH_done (by kernel_rfl) ?_ _
                refine NoPanic.normal ?_
                rotate_left 1
                exact AllReadyH.nil
                exact AllReadyH.nil
                have GE := (Only.refl [w.heap.size + 2, w.heap.size + 3] wS14).drew.trans (hwd ▸ G_all)
                clear hwd G_all hHeld wdS
                refine (‹∀ (a : Act) (w : World), Code.wp Tryd.prog Code.ret _ a w → _›) _ _ ?_
                refine wp_ret ?_
                have VE := (V8).thn GE (fun q hq => Or.inl (by simp at hq; omega))
                have IE := LIS.out _ _ _ _ IT8 GE (fun q hq hq' => by have := TI8 q hq; simp at hq'; omega) (fun q hq => (TI8 q hq).1)
                have SGE := GE.size
                have e_r := B_r.all11
                have e_q := B_q.all11
                have EE := RPX.out
                subst EE
                exact bodyPost_ret (v := .tuple #[.agg #[.int .i64 s2.P, .int .i64 s2.party, .int .i64 s2.input, .int .i64 s2.mask, .int .i64 s2.delta, .slice xa.sa xa.sn xa.sc, .slice xa.ka xa.kn xa.kc, .int .i64 s2.step, .slice xa.ha xa.hn xa.hc, .int .i64 s2.status, .int .i64 s2.out], .agg #[.int .i64 t2.P, .int .i64 t2.party, .int .i64 t2.input, .int .i64 t2.mask, .int .i64 t2.delta, .slice xb.sa xb.sn xb.sc, .slice xb.ka xb.kn xb.kc, .int .i64 t2.step, .slice xb.ha xb.hn xb.hc, .int .i64 t2.status, .int .i64 t2.out], .slice a5 (N + 2) c5]) (by simp [results, Tryd.results84, go_sem, e_r, e_q]) rfl ⟨xa, Fa2, xb, Fb2, a5, N + 2, c5, Fm', rfl, o6.lower (by omega), o12.lower (by omega), om'.lower (by omega), D612, d6m, d12m, VE, _, IE, fun q hq => Nat.lt_of_lt_of_le (TI8 q hq).1 SGE⟩
              · have d2 : ((t2.status == 2) : Bool) = false := by simpa using hc2
                have RPX := Lib.hid (RPg.out (fun hh => hh.elim hc1 hc2))
                have RSX : Hid (k + 1 < 3 → RunS (k + 1) s2 t2) := Lib.hid (fun hk2 => by
                  have e1 : takeM s cm = s2 := stp.out.1.symm
                  have e2 : takeM t cn = t2 := stp.out.2.symm
                  have hh := LRS.out.next (by omega) (m := cm) (k := cn) (by rw [e1]; exact hc1) (by rw [e2]; exact hc2)
                  rwa [e1, e2] at hh)
                have PX : Hid (s2.P = a.P ∧ t2.P = a.P) := Lib.hid ⟨by rw [stp.out.1, takeM_P]; exact hsP.out, by rw [stp.out.2, takeM_P]; exact htP.out⟩
                replace hc1 := Lib.hid hc1
                replace hc2 := Lib.hid hc2
                go_wp2
                have hN2 : N + 2 = 2 * (k + 1) := by have := hN.out; omega
                go_roundw
                case rel => exact ⟨⟨k + 1, s2, t2, D ++ [(0, s.step, bodyL s), (1, t.step, bodyL t)], xa, xb, Fa2, Fb2, a5, c5, Fm', Ti2⟩, by go_num, by rw [hN2], (show RunLF chg I F0 RP a.P w (k + 1) s2 t2 (D ++ [(0, s.step, bodyL s), (1, t.step, bodyL t)]) xa xb Fa2 Fb2 a5 c5 Fm' Ti2 _ from ⟨by omega, V8, B_r, B_q, KP, by have := hDl.out; simp; omega, B_a, B_b, o6, o12, hN2 ▸ om', D612, d6m, d12m, RSX.out, PX.out.1, PX.out.2, by rw [RPX.out, show 3 - (k + 1) = 2 - k by omega], IT8, TI8, T8b⟩)⟩
                case measure => simp [intOf]; omega
      · have hk3 : k = 3 := by omega
        have RPX : Hid (RP = (s, t, D)) := Lib.hid (by rw [hRP2.out, hk3]; rfl)
        replace hk3 := Lib.hid hk3
        have hge : ¬ ((k : Int) < 3) := by have := hk3.out; omega
        have Q_oa := Lib.hid oa.feet
        have Q_ob := Lib.hid ob.feet
        have Q_om := Lib.hid om.feet
        go_upto_region 11 with fail
        replace B_a := Blk.drew B_a
        replace B_b := Blk.drew B_b
        replace B_r := Blk.drew B_r
        replace B_q := Blk.drew B_q
        replace oa := oa.drew
        replace ob := ob.drew
        replace om := om.drew
        refine wp_region_noPanic ?_
        refine wp_region_held_drew (S := (fun W => Blk W (w.heap.size) 31 #[.int .i64 s.P, .int .i64 s.party, .int .i64 s.input, .int .i64 s.mask, .int .i64 s.delta, .slice xs.sa xs.sn xs.sc, .slice xs.ka xs.kn xs.kc, .int .i64 s.step, .slice xs.ha xs.hn xs.hc, .int .i64 s.status, .int .i64 s.out] ∧ Blk W (w.heap.size + 1) 31 #[.int .i64 t.P, .int .i64 t.party, .int .i64 t.input, .int .i64 t.mask, .int .i64 t.delta, .slice ys.sa ys.sn ys.sc, .slice ys.ka ys.kn ys.kc, .int .i64 t.step, .slice ys.ha ys.hn ys.hc, .int .i64 t.status, .int .i64 t.out])) (by kernel_rfl) ?hS27 (fun hHeld => ?go27)
        case hS27 => exact ⟨B_a, B_b⟩
        refine tk (i := 0) (oi := ⟨some 59, _, _, _, _, _⟩) (v := ?v0_28) hHeld rfl ?y0_28 ?r0_28
        case y0_28 => (intro w hSw; obtain ⟨qS0, qS1⟩ := hSw; have cS0 := qS0.all11; have cS1 := qS1.all11; first | (go_simp; first | done | with_reducible rfl) | with_reducible rfl)
        (try simp only [pt_])
        refine tk (i := 1) (oi := ⟨some 60, _, _, _, _, _⟩) (v := ?v1_29) hHeld rfl ?y1_29 ?r1_29
        case y1_29 => (intro w hSw; obtain ⟨qS0, qS1⟩ := hSw; have cS0 := qS0.all11; have cS1 := qS1.all11; first | (go_simp; first | done | with_reducible rfl) | with_reducible rfl)
        (try simp only [pt_])
        refine tk (i := 2) (oi := ⟨some 61, _, _, _, _, _⟩) (v := ?v2_30) hHeld rfl ?y2_30 ?r2_30
        case y2_30 => (intro w _; first | (go_simp; first | done | with_reducible rfl) | with_reducible rfl)
        (try simp only [pt_])
        have wdS := (Nat.le_refl wr.heap.size : wr.heap.size ≤ wr.drew.heap.size)
        generalize hwd : wr.drew = wd at *
        have G_all : Only [w.heap.size + 2, w.heap.size + 3] wd wd := Only.refl _ _
        refine wpAnyH_ready (rs := [3]) (by kernel_rfl) (by simp) ?_
        refine AllReadyH.cons (o := ⟨none, _, _, _, _, _⟩) rfl (fun K hK => ?_) ?_
        refine step_st B_r (by simp [Region.wanted]) _ _ _ (by rfl) (by rfl) (by rfl) (by kernel_rfl) (by rfl) (by simp [Value.oneCell']) ?_
        intro wS3 B_r' G
        replace B_r := B_r'; clear B_r'
        replace B_a := B_a.only G (by first | (simp; done) | (simp; omega))
        replace B_b := B_b.only G (by first | (simp; done) | (simp; omega))
        replace B_q := B_q.only G (by first | (simp; done) | (simp; omega))
        replace oa := oa.only G (fun q hq hq' => by have := Q_oa.out q hq; simp at hq'; omega)
        replace ob := ob.only G (fun q hq hq' => by have := Q_ob.out q hq; simp at hq'; omega)
        replace om := om.only G (fun q hq hq' => by have := Q_om.out q hq; simp at hq'; omega)
        replace G_all := G_all.trans (G.more (F' := [w.heap.size + 2, w.heap.size + 3]) (by simp))
        clear G
        refine hK.out _ _ ?_ (fun hHeld => ?_)
        · exact ⟨B_a, B_b⟩
        clear hK K
        (try simp only [pt_])
        refine wpAnyH_ready (rs := [4]) (by kernel_rfl) (by simp) ?_
        refine AllReadyH.cons (o := ⟨none, _, _, _, _, _⟩) rfl (fun K hK => ?_) ?_
        refine step_st B_q (by simp [Region.wanted]) _ _ _ (by rfl) (by rfl) (by rfl) (by kernel_rfl) (by rfl) (by simp [Value.oneCell']) ?_
        intro wS4 B_q' G
        replace B_q := B_q'; clear B_q'
        replace B_a := B_a.only G (by first | (simp; done) | (simp; omega))
        replace B_b := B_b.only G (by first | (simp; done) | (simp; omega))
        replace B_r := B_r.only G (by first | (simp; done) | (simp; omega))
        replace oa := oa.only G (fun q hq hq' => by have := Q_oa.out q hq; simp at hq'; omega)
        replace ob := ob.only G (fun q hq hq' => by have := Q_ob.out q hq; simp at hq'; omega)
        replace om := om.only G (fun q hq hq' => by have := Q_om.out q hq; simp at hq'; omega)
        replace G_all := G_all.trans (G.more (F' := [w.heap.size + 2, w.heap.size + 3]) (by simp))
        clear G
        refine hK.out _ _ ?_ (fun hHeld => ?_)
        · exact ⟨B_a, B_b⟩
        clear hK K
        (try simp only [pt_])
        refine tk (i := 5) (oi := ⟨some 8, _, _, _, _, _⟩) (v := ?v5_31) hHeld rfl ?y5_31 ?r5_31
        case y5_31 => (intro w _; first | (go_simp; first | done | with_reducible rfl) | with_reducible rfl)
        (try simp only [pt_])
        refine wpAnyH_done (by kernel_rfl) ?_ _
        refine NoPanic.normal ?_
        rotate_left 1
        exact AllReadyH.nil
        exact AllReadyH.nil
        have GE := (Only.refl [w.heap.size + 2, w.heap.size + 3] wr).drew.trans (hwd ▸ G_all)
        clear hwd G_all hHeld wdS
        refine (‹∀ (a : Act) (w : World), Code.wp Tryd.prog Code.ret _ a w → _›) _ _ ?_
        refine wp_ret ?_
        have VE := (V_wr.out).thn GE (fun q hq => Or.inl (by simp at hq; omega))
        have IE := LIS.out _ _ _ _ hIT.out GE (fun q hq hq' => by have := hTl.out q hq; simp at hq'; omega) (fun q hq => (hTl.out q hq).1)
        have SGE := GE.size
        have e_r := B_r.all11
        have e_q := B_q.all11
        have EE := RPX.out
        subst EE
        exact bodyPost_ret (v := .tuple #[.agg #[.int .i64 s.P, .int .i64 s.party, .int .i64 s.input, .int .i64 s.mask, .int .i64 s.delta, .slice xs.sa xs.sn xs.sc, .slice xs.ka xs.kn xs.kc, .int .i64 s.step, .slice xs.ha xs.hn xs.hc, .int .i64 s.status, .int .i64 s.out], .agg #[.int .i64 t.P, .int .i64 t.party, .int .i64 t.input, .int .i64 t.mask, .int .i64 t.delta, .slice ys.sa ys.sn ys.sc, .slice ys.ka ys.kn ys.kc, .int .i64 t.step, .slice ys.ha ys.hn ys.hc, .int .i64 t.status, .int .i64 t.out], .slice p N c]) (by simp [results, Tryd.results84, go_sem, e_r, e_q]) rfl ⟨xs, Fa, ys, Fb, p, N, c, Fm, rfl, oa.lower (by omega), ob.lower (by omega), om.lower (by omega), dab, dam, dbm, VE, _, IE, fun q hq => Nat.lt_of_lt_of_le (hTl.out q hq).1 SGE⟩
end Go.Proofs.YtlmdckcohoddnaaDoor
