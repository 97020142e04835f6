/- Lemmas and walks that the claim's proof rests on, part 16. -/
import Derived.Test.YtlmdckcohoddnaaDoorK7
import Derived.Test.YtlmdckcohoddnaaDoorK13
import Derived.Test.YtlmdckcohoddnaaDoorK15
namespace Go.Proofs.YtlmdckcohoddnaaDoor
open Go.RowKit
def lenV : Value → Nat
  | .slice _ n _ => n
  | _ => 0
def chgP (P at_ : Int) (i : Nat) (k : Int) (j : Int) (m : MsD) : MsD := if j = at_ then (m.1, m.2.1, bendI P m.2.2 i k) else m
theorem PlB.re {F G w x s k h} (p : PlB F w x s k h) (hG : ∀ q ∈ G, q ∈ F ∨ w.heap.size ≤ q) : PlB G w x s k h := by
  obtain ⟨p1, p2, rs, p3, p4, q1, q2, q3, q4⟩ := p
  have J : ∀ {a : Option Addr} {n : Nat}, Off F a n → (∀ H : List Nat, (∀ q ∈ H, w.heap.size ≤ q) → Off H a n) → Off G a n := fun h1 h2 hn x hx hm =>
    (hG _ hm).elim (h1 hn x hx) (fun hle => h2 [x.block] (by simpa using hle) hn x hx (by simp))
  exact ⟨p1, p2, rs, p3, p4, J q1 (fun H hH => RowC.off p1 (by omega) hH), J q2 (fun H hH => RowC.off p2.rowC (by omega) hH), J q3 (fun H hH => RowC.off p3.row (by omega) hH), fun r hr => J (q4 r hr) (fun H hH => RowC.off (p3.inn r hr).rowC (by omega) hH)⟩
theorem takeM_party (a : Pl) (m : MsD) : (takeM a m).party = a.party := by
  unfold takeM takeP
  split <;> rfl
def RunE (chg : Int → MsD → MsD) (RP : Pl × Pl × List MsD) (k : Nat) (s t : Pl) (D : List MsD) : Prop :=
  (k < 3 ∧ RunS k s t ∧ RP = runP chg (3 - k) s t D) ∨ ((s.status ≠ 0 ∨ t.status ≠ 0) ∧ RP = (s, t, D))
theorem RunE.next {chg : Int → MsD → MsD} {RP : Pl × Pl × List MsD} {k : Nat} {s t : Pl} {D : List MsD} (hk : k < 3) (hR : RunS k s t) (h : RP = runP chg (3 - k) s t D) :
    RunE chg RP (k + 1) (takeM s (chg (D.length + 1) (mesP 1 t))) (takeM t (chg D.length (mesP 0 s))) (D ++ [mesP 0 s, mesP 1 t]) := by
  rw [show 3 - k = (2 - k) + 1 by omega] at h
  unfold runP at h
  dsimp only at h
  generalize hm : chg (D.length + 1) (mesP 1 t) = cm at *
  generalize hn : chg D.length (mesP 0 s) = cn at *
  by_cases hs : (takeM s cm).status = 2 ∨ (takeM t cn).status = 2
  · rw [if_pos hs] at h
    exact Or.inr ⟨by rcases hs with e | e <;> rw [e] <;> simp, h⟩
  · rw [if_neg hs] at h
    have h1 : (takeM s cm).status ≠ 2 := fun e => hs (Or.inl e)
    have h2 : (takeM t cn).status ≠ 2 := fun e => hs (Or.inr e)
    by_cases hk2 : k < 2
    · exact Or.inl ⟨by omega, hR.next (by omega) h1 h2, by rw [h, show 3 - (k + 1) = 2 - k by omega]⟩
    · have hk3 : k = 2 := by omega
      subst hk3
      exact Or.inr ⟨Or.inl (by rw [(takeM_end h1 hR.sa).2]; simp), h⟩
structure PRunLD where
  k : Nat
  s : Pl
  t : Pl
  D : List MsD
  xs : PlX
  ys : PlX
  p : Option Addr
  c : Nat
  Fm : List Nat
structure PRunLF (chg : Int → MsD → MsD) (RP : Pl × Pl × List MsD) (aP : Int) (w : World) (k : Nat) (s t : Pl) (D : List MsD) (xs ys : PlX) (p : Option Addr) (c : Nat) (Fm : List Nat) (wr : World) : Prop where
  hk : k ≤ 3
  V : Below w.heap.size w wr
  Br : Blk wr (w.heap.size + 2) 31 #[.int .i64 0, .int .i64 0, .int .i64 0, .int .i64 0, .int .i64 0, .slice none 0 0, .slice none 0 0, .int .i64 0, .slice none 0 0, .int .i64 0, .int .i64 0]
  Bq : Blk wr (w.heap.size + 3) 31 #[.int .i64 0, .int .i64 0, .int .i64 0, .int .i64 0, .int .i64 0, .slice none 0 0, .slice none 0 0, .int .i64 0, .slice none 0 0, .int .i64 0, .int .i64 0]
  sz : w.heap.size + 4 ≤ wr.heap.size
  dl : D.length = 2 * k
  Ba : Blk wr w.heap.size 31 #[.int .i64 s.P, .int .i64 s.party, .int .i64 s.input, .int .i64 s.mask, .int .i64 s.delta, .slice xs.sa xs.sn xs.sc, .slice xs.ka xs.kn xs.kc, .int .i64 s.step, .slice xs.ha xs.hn xs.hc, .int .i64 s.status, .int .i64 s.out]
  Bb : Blk wr (w.heap.size + 1) 31 #[.int .i64 t.P, .int .i64 t.party, .int .i64 t.input, .int .i64 t.mask, .int .i64 t.delta, .slice ys.sa ys.sn ys.sc, .slice ys.ka ys.kn ys.kc, .int .i64 t.step, .slice ys.ha ys.hn ys.hc, .int .i64 t.status, .int .i64 t.out]
  oa : PlB ([w.heap.size, w.heap.size + 1, w.heap.size + 2, w.heap.size + 3] ++ foot p c) wr xs s.shares s.keys s.heard
  ob : PlB ([w.heap.size, w.heap.size + 1, w.heap.size + 2, w.heap.size + 3] ++ foot p c) wr ys t.shares t.keys t.heard
  om : MsO wr (w.heap.size + 4) p (2 * k) c D Fm
  sn : PlN s
  tn : PlN t
  sP : s.P = aP
  tP : t.P = aP
  spa : s.party = 0
  tpa : t.party = 1
  re : RunE chg RP k s t D
structure PRunBD where
  l1 : Bool
  l3 : Bool
  l4 : Bool
  l5 : Bool
  v1 : Value
  v3 : Value
  v4 : Value
  v5 : Value
  b1 : Option Addr
  c1 : Nat
  b2 : Option Addr
  c2 : Nat
  bx_m : Nat
  bx_n : Nat
structure PRunBF (W0 : World) (s : Pl) (t : Pl) (l1 : Bool) (l3 : Bool) (l4 : Bool) (l5 : Bool) (v1 : Value) (v3 : Value) (v4 : Value) (v5 : Value) (b1 : Option Addr) (c1 : Nat) (b2 : Option Addr) (c2 : Nat) (bx_m : Nat) (bx_n : Nat) (wJ : World) : Prop where
  U : Below W0.heap.size W0 wJ
  k3_1 : l3 = true → l1 = true
  r1 : l1 = true → v1 = .agg #[.int .i64 s.party, .int .i64 s.step, .slice b1 (bodyL s).length c1]
  r3 : l3 = true → v3 = .agg #[.int .i64 t.party, .int .i64 t.step, .slice b2 (bodyL t).length c2]
  r4 : l4 = true → v4 = .pointer (some ⟨bx_m, 0, none⟩)
  r5 : l5 = true → v5 = .pointer (some ⟨bx_n, 0, none⟩)
  Bm : l4 = true → Blk wJ bx_m 44 #[.int .i64 0, .int .i64 0, .slice none 0 0]
  Bn : l5 = true → Blk wJ bx_n 44 #[.int .i64 0, .int .i64 0, .slice none 0 0]
  hb_m : l4 = true → (W0.heap.size ≤ bx_m ∧ bx_m < wJ.heap.size)
  hb_n : l5 = true → (W0.heap.size ≤ bx_n ∧ bx_n < wJ.heap.size)
  ne_mn : l4 = true → l5 = true → bx_m ≠ bx_n
  m1 : l1 = true → Own wJ W0.heap.size b1 (bodyL s).length c1 (bodyL s)
  m2 : l3 = true → Own wJ W0.heap.size b2 (bodyL t).length c2 (bodyL t)
  D12 : l1 = true → l3 = true → Disj (foot b1 c1) (foot b2 c2)
  m1m : l1 = true → l4 = true → bx_m ∉ foot b1 c1
  m1n : l1 = true → l5 = true → bx_n ∉ foot b1 c1
  m2m : l3 = true → l4 = true → bx_m ∉ foot b2 c2
  m2n : l3 = true → l5 = true → bx_n ∉ foot b2 c2
structure PRunED where
  l1 : Bool
  l3 : Bool
  v1 : Value
  v3 : Value
  ya : PlX
  Fa : List Nat
  yb : PlX
  Fb : List Nat
structure PRunEF (W0 : World) (s : Pl) (t : Pl) (l1 : Bool) (l3 : Bool) (v1 : Value) (v3 : Value) (ya : PlX) (Fa : List Nat) (yb : PlX) (Fb : List Nat) (wJ : World) : Prop where
  U : Below W0.heap.size W0 wJ
  k3_1 : l3 = true → l1 = true
  r1 : l1 = true → v1 = .agg #[.int .i64 s.P, .int .i64 s.party, .int .i64 s.input, .int .i64 s.mask, .int .i64 s.delta, .slice ya.sa ya.sn ya.sc, .slice ya.ka ya.kn ya.kc, .int .i64 s.step, .slice ya.ha ya.hn ya.hc, .int .i64 s.status, .int .i64 s.out]
  r3 : l3 = true → v3 = .agg #[.int .i64 t.P, .int .i64 t.party, .int .i64 t.input, .int .i64 t.mask, .int .i64 t.delta, .slice yb.sa yb.sn yb.sc, .slice yb.ka yb.kn yb.kc, .int .i64 t.step, .slice yb.ha yb.hn yb.hc, .int .i64 t.status, .int .i64 t.out]
  o1 : l1 = true → PlO wJ W0.heap.size ya s.shares s.keys s.heard Fa
  o3 : l3 = true → PlO wJ W0.heap.size yb t.shares t.keys t.heard Fb
  D13 : l1 = true → l3 = true → Disj Fa Fb
set_option maxHeartbeats 16000000 in
set_option maxRecDepth 100000 in
theorem ptRun_any (a b : Pl) (x z : PlX) (at_ : Int) (i : Nat) (kk : Int) (w : World) (h : PlR w x a.shares a.keys a.heard) (h' : PlR w z b.shares b.keys b.heard) (hR : RunS 0 a b) (hP : a.P = b.P) (hpa : a.party = 0) (hpb : b.party = 1)
    (hat : at_ = -1 ∨ (0 ≤ at_ ∧ at_ ≤ 5 ∧ i < blen (at_ / 2).toNat ∧ 0 ≤ kk ∧ kk ≤ a.P - 1)) :
    Calls Tryd.prog 89 #[.agg #[.int .i64 a.P, .int .i64 a.party, .int .i64 a.input, .int .i64 a.mask, .int .i64 a.delta, .slice x.sa x.sn x.sc, .slice x.ka x.kn x.kc, .int .i64 a.step, .slice x.ha x.hn x.hc, .int .i64 a.status, .int .i64 a.out], .agg #[.int .i64 b.P, .int .i64 b.party, .int .i64 b.input, .int .i64 b.mask, .int .i64 b.delta, .slice z.sa z.sn z.sc, .slice z.ka z.kn z.kc, .int .i64 b.step, .slice z.ha z.hn z.hc, .int .i64 b.status, .int .i64 b.out], .int .i64 at_, .int .i64 i, .int .i64 kk] w fun e w' => ∃ y F y' F' p n c G, e = .returned (.tuple #[.agg #[.int .i64 (runP (chgP a.P at_ i kk) 3 a b []).1.P, .int .i64 (runP (chgP a.P at_ i kk) 3 a b []).1.party, .int .i64 (runP (chgP a.P at_ i kk) 3 a b []).1.input, .int .i64 (runP (chgP a.P at_ i kk) 3 a b []).1.mask, .int .i64 (runP (chgP a.P at_ i kk) 3 a b []).1.delta, .slice y.sa y.sn y.sc, .slice y.ka y.kn y.kc, .int .i64 (runP (chgP a.P at_ i kk) 3 a b []).1.step, .slice y.ha y.hn y.hc, .int .i64 (runP (chgP a.P at_ i kk) 3 a b []).1.status, .int .i64 (runP (chgP a.P at_ i kk) 3 a b []).1.out], .agg #[.int .i64 (runP (chgP a.P at_ i kk) 3 a b []).2.1.P, .int .i64 (runP (chgP a.P at_ i kk) 3 a b []).2.1.party, .int .i64 (runP (chgP a.P at_ i kk) 3 a b []).2.1.input, .int .i64 (runP (chgP a.P at_ i kk) 3 a b []).2.1.mask, .int .i64 (runP (chgP a.P at_ i kk) 3 a b []).2.1.delta, .slice y'.sa y'.sn y'.sc, .slice y'.ka y'.kn y'.kc, .int .i64 (runP (chgP a.P at_ i kk) 3 a b []).2.1.step, .slice y'.ha y'.hn y'.hc, .int .i64 (runP (chgP a.P at_ i kk) 3 a b []).2.1.status, .int .i64 (runP (chgP a.P at_ i kk) 3 a b []).2.1.out], .slice p n c]) ∧
      PlO w' w.heap.size y (runP (chgP a.P at_ i kk) 3 a b []).1.shares (runP (chgP a.P at_ i kk) 3 a b []).1.keys (runP (chgP a.P at_ i kk) 3 a b []).1.heard F ∧ PlO w' w.heap.size y' (runP (chgP a.P at_ i kk) 3 a b []).2.1.shares (runP (chgP a.P at_ i kk) 3 a b []).2.1.keys (runP (chgP a.P at_ i kk) 3 a b []).2.1.heard F' ∧ MsO w' w.heap.size p n c (runP (chgP a.P at_ i kk) 3 a b []).2.2 G ∧ Disj F F' ∧ Disj F G ∧ Disj F' G ∧ Below w.heap.size w w' := by
  have LR := Lib.hid hR
  have LP := Lib.hid hP
  have LA := Lib.hid hat
  have LH := Lib.hid h
  have LH' := Lib.hid h'
  have LPA := Lib.hid (And.intro hpa hpb)
  obtain ⟨RP, hRP⟩ : ∃ r, runP (chgP a.P at_ i kk) 3 a b [] = r := ⟨_, rfl⟩
  rw [hRP]
  replace hRP := Lib.hid hRP
  have hat5 : -1 ≤ at_ ∧ at_ ≤ 5 := by omega
  clear h h' hR hP hat hpa hpb
  go_enter Tryd.func89, Tryd.ntmps89
  go_upto_region 1 with fail
  refine Exists.elim (Blk.new_ w (b := w.heap.size) rfl 31 #[.int .i64 a.P, .int .i64 a.party, .int .i64 a.input, .int .i64 a.mask, .int .i64 a.delta, .slice x.sa x.sn x.sc, .slice x.ka x.kn x.kc, .int .i64 a.step, .slice x.ha x.hn x.hc, .int .i64 a.status, .int .i64 a.out]) (fun w1_a0' q => ?_)
  rw [q.1]; have B_a := q.2.1; have s_w1_a0' := q.2.2.1; have u_w1_a0' := q.2.2.2; clear q
  refine Exists.elim (Blk.new_ w1_a0' (b := w.heap.size + 1) s_w1_a0' 31 #[.int .i64 b.P, .int .i64 b.party, .int .i64 b.input, .int .i64 b.mask, .int .i64 b.delta, .slice z.sa z.sn z.sc, .slice z.ka z.kn z.kc, .int .i64 b.step, .slice z.ha z.hn z.hc, .int .i64 b.status, .int .i64 b.out]) (fun w1_a1' q => ?_)
  rw [q.1]; have B_b := q.2.1; have s_w1_a1' := q.2.2.1; have u_w1_a1' := q.2.2.2; clear q
  refine Exists.elim (Blk.new_ w1_a1' (b := w.heap.size + 2) s_w1_a1' 31 #[.int .i64 0, .int .i64 0, .int .i64 0, .int .i64 0, .int .i64 0, .slice none 0 0, .slice none 0 0, .int .i64 0, .slice none 0 0, .int .i64 0, .int .i64 0]) (fun w1_a2' q => ?_)
  rw [q.1]; have B_r := q.2.1; have s_w1_a2' := q.2.2.1; have u_w1_a2' := q.2.2.2; clear q
  refine Exists.elim (Blk.new_ w1_a2' (b := w.heap.size + 3) s_w1_a2' 31 #[.int .i64 0, .int .i64 0, .int .i64 0, .int .i64 0, .int .i64 0, .slice none 0 0, .slice none 0 0, .int .i64 0, .slice none 0 0, .int .i64 0, .int .i64 0]) (fun w1' q => ?_)
  rw [q.1]; have B_q := q.2.1; have s_w1' := q.2.2.1; have u_w1' := q.2.2.2; clear q
  replace B_a := (((B_a.below u_w1_a1').below u_w1_a2').below u_w1')
  replace B_b := ((B_b.below u_w1_a2').below u_w1')
  replace B_r := (B_r.below u_w1')
  have U := (u_w1_a0'.trans ((u_w1_a1'.trans ((u_w1_a2'.trans (u_w1'.mono u_w1_a2'.size)).mono u_w1_a1'.size)).mono u_w1_a0'.size))
  have S_w1' : w.heap.size + 4 ≤ w1'.heap.size := Nat.le_of_eq s_w1'.symm
  have V_w1' := (Below.refl w.heap.size w).trans (U.mono ((Below.refl w.heap.size w)).size)
  clear u_w1_a0' u_w1_a1' u_w1_a2' u_w1' s_w1_a0' s_w1_a1' s_w1_a2' s_w1' U
  try rw [show w.heap.size + 1 + 1 + 1 = w.heap.size + 3 from rfl]
  try rw [show w.heap.size + 1 + 1 = w.heap.size + 2 from rfl]
  go_wp2_with fail
  have SZ : w.heap.size + 4 ≤ w1'.heap.size := by omega
  have oa : PlB ([w.heap.size, w.heap.size + 1, w.heap.size + 2, w.heap.size + 3] ++ foot none 0) w1' x a.shares a.keys a.heard := by rw [foot_zero]; exact (PlB.of LH.out (fun q hq => by simp at hq; omega)).below V_w1'
  have ob : PlB ([w.heap.size, w.heap.size + 1, w.heap.size + 2, w.heap.size + 3] ++ foot none 0) w1' z b.shares b.keys b.heard := by rw [foot_zero]; exact (PlB.of LH'.out (fun q hq => by simp at hq; omega)).below V_w1'
  have om := MsO.nil w1' (w.heap.size + 4) none
  have LV := Lib.hid V_w1'
  go_loopw [13] (fun u wr => ∃ d : PRunLD, u = .slice d.p (2 * d.k) d.c ∧ PRunLF (chgP a.P at_ i kk) RP a.P w d.k d.s d.t d.D d.xs d.ys d.p d.c d.Fm wr) (fun u _ => 6 - lenV u)
  case atStart => exact ⟨⟨0, a, b, [], x, z, none, 0, []⟩, rfl, (show PRunLF (chgP a.P at_ i kk) RP a.P w 0 a b [] x z none 0 [] w1' from ⟨by omega, LV.out, B_r, B_q, SZ, rfl, B_a, B_b, oa, ob, om, LR.out.an, LR.out.bn, rfl, LP.out.symm, LPA.out.1, LPA.out.2, Or.inl ⟨by omega, LR.out, hRP.out.symm⟩⟩)⟩
  case round =>
    obtain ⟨d, hr1, hL⟩ := hrel
    cases d with | mk k s t D xs ys p c Fm =>
    subst hr1
    replace hL : PRunLF (chgP a.P at_ i kk) RP a.P w k s t D xs ys p c Fm wr := hL
    have hk := hL.hk
    have V_wr := hL.V
    have B_r := hL.Br
    have B_q := hL.Bq
    have SZr := hL.sz
    have hDl := hL.dl
    have B_a := hL.Ba
    have B_b := hL.Bb
    have oa := hL.oa
    have ob := hL.ob
    have om := hL.om
    have hsn := hL.sn
    have htn := hL.tn
    have hsP := hL.sP
    have htP := hL.tP
    have hspa := hL.spa
    have htpa := hL.tpa
    have hre := hL.re
    clear hL
    obtain ⟨N, hN⟩ : ∃ N, N = 2 * k := ⟨_, rfl⟩
    rw [← hN] at om hDl
    rw [← hN]
    replace hN := Lib.hid hN
    replace hDl := Lib.hid hDl
    replace hsP := Lib.hid hsP
    replace htP := Lib.hid htP
    replace hspa := Lib.hid hspa
    replace htpa := Lib.hid htpa
    replace hsn := Lib.hid hsn
    replace htn := Lib.hid htn
    replace V_wr := Lib.hid V_wr
    by_cases hst : s.status = 0 ∧ t.status = 0
    · have hre2 : k < 3 ∧ RunS k s t ∧ RP = runP (chgP a.P at_ i kk) (3 - k) s t D := by
        rcases hre with h | h
        · exact h
        · exact absurd hst (fun hh => h.1.elim (fun e => e hh.1) (fun e => e hh.2))
      clear hre
      have hlt := hre2.1
      have LRS := Lib.hid hre2.2.1
      have HRE := Lib.hid hre2.2.2
      clear hre2
      have d1 : ((s.status == 0) : Bool) = true := by simpa using hst.1
      have d2 : ((t.status == 0) : Bool) = true := by simpa using hst.2
      clear hst
      have CBa := Lib.hid (fun (W : World) (h2 : PlR W xs s.shares s.keys s.heard) => ptMessage_any s xs W h2 LRS.out.an (by have := LRS.out.sa; omega))
      have CBb := Lib.hid (fun (W : World) (h2 : PlR W ys t.shares t.keys t.heard) => ptMessage_any t ys W h2 LRS.out.bn (by have := LRS.out.sb; omega))
      have Q_om := Lib.hid om.feet
      have e_a_9 := B_a.a11_9
      have e_b_9 := B_b.a11_9
      go_upto_region 3 with fail
      clear e_a_9 e_b_9
      replace B_a := Blk.drew B_a
      replace B_b := Blk.drew B_b
      refine wp_region_noPanic ?_
      refine wp_region_held_drew (S := (fun W => Blk W (w.heap.size) 31 #[.int .i64 s.P, .int .i64 s.party, .int .i64 s.input, .int .i64 s.mask, .int .i64 s.delta, .slice xs.sa xs.sn xs.sc, .slice xs.ka xs.kn xs.kc, .int .i64 s.step, .slice xs.ha xs.hn xs.hc, .int .i64 s.status, .int .i64 s.out] ∧ Blk W (w.heap.size + 1) 31 #[.int .i64 t.P, .int .i64 t.party, .int .i64 t.input, .int .i64 t.mask, .int .i64 t.delta, .slice ys.sa ys.sn ys.sc, .slice ys.ka ys.kn ys.kc, .int .i64 t.step, .slice ys.ha ys.hn ys.hc, .int .i64 t.status, .int .i64 t.out])) (by kernel_rfl) ?hS1 (fun hHeld => ?go1)
      case hS1 => exact ⟨B_a, B_b⟩
      refine tk (i := 0) (oi := ⟨some 24, _, _, _, _, _⟩) (v := ?v0_2) hHeld rfl ?y0_2 ?r0_2
      case y0_2 => (intro w hSw; obtain ⟨qS0, qS1⟩ := hSw; have cS0 := qS0.all11; have cS1 := qS1.all11; first | (go_simp; first | done | with_reducible rfl) | with_reducible rfl)
      (try simp only [pt_])
      refine tk (i := 2) (oi := ⟨some 26, _, _, _, _, _⟩) (v := ?v2_3) hHeld rfl ?y2_3 ?r2_3
      case y2_3 => (intro w hSw; obtain ⟨qS0, qS1⟩ := hSw; have cS0 := qS0.all11; have cS1 := qS1.all11; first | (go_simp; first | done | with_reducible rfl) | with_reducible rfl)
      (try simp only [pt_])
      rotate_left 1
      refine wpAnyH_inv [1, 3, 4, 5] #[true, false, true, false, false, false, false, false] #[true, true, true, true, true, true, false, false] 6 2 (fun (a0J : Act) (lJ : Array Bool) (aJ : Act) (wJ : World) => ∃ dJ : PRunBD, lJ = #[true, dJ.l1, true, dJ.l3, dJ.l4, dJ.l5, false, false] ∧ aJ = ((((a0J.put (some 25) dJ.v1).put (some 27) dJ.v3).put (some 14) dJ.v4).put (some 15) dJ.v5) ∧ PRunBF wr s t dJ.l1 dJ.l3 dJ.l4 dJ.l5 dJ.v1 dJ.v3 dJ.v4 dJ.v5 dJ.b1 dJ.c1 dJ.b2 dJ.c2 dJ.bx_m dJ.bx_n wJ) (by kernel_rfl) (by kernel_rfl) (by kernel_rfl) (by kernel_rfl) (by kernel_rfl) ?hJ hHeld ?hi ?hs ?he
      case hJ => rintro lJ aJ wJ ⟨dJ, rfl, _⟩; exact ⟨[dJ.l1, dJ.l3, dJ.l4, dJ.l5], rfl, rfl⟩
      case hi => exact ⟨⟨false, false, false, false, _, _, _, _, none, 0, none, 0, 0, 0⟩, rfl, (Act.selfs (Act.selfs (Act.selfs (Act.selfs rfl 25) 27) 14) 15), ⟨(Below.refl _ _).drew, fun q0 => (by cases q0), fun q0 => (by cases q0), fun q0 => (by cases q0), fun q0 => (by cases q0), fun q0 => (by cases q0), fun q0 => (by cases q0), fun q0 => (by cases q0), fun q0 => (by cases q0), fun q0 => (by cases q0), fun q0 q1 => (by cases q0), fun q0 => (by cases q0), fun q0 => (by cases q0), fun q0 q1 => (by cases q0), fun q0 q1 => (by cases q0), fun q0 q1 => (by cases q0), fun q0 q1 => (by cases q0), fun q0 q1 => (by cases q0)⟩⟩
      case hs =>
        refine StepsI.cons (o := ⟨some 25, _, _, _, _, _⟩) rfl ?_ ?_
        · intro lJ aJ wi K hS hJ hz0 hd hK
          obtain ⟨dJ, hJ⟩ := hJ
          obtain ⟨e1, hJ⟩ := hJ
          obtain ⟨e2, hF⟩ := hJ
          subst e1
          subst e2
          cases dJ with | mk l1 l3 l4 l5 v1 v3 v4 v5 b1 c1 b2 c2 bx_m bx_n =>
          replace hF : PRunBF wr s t l1 l3 l4 l5 v1 v3 v4 v5 b1 c1 b2 c2 bx_m bx_n wi := hF
          have U := hF.U
          have k3_1 := hF.k3_1
          have r1 := hF.r1
          have r3 := hF.r3
          have r4 := hF.r4
          have r5 := hF.r5
          have Bm := hF.Bm
          have Bn := hF.Bn
          have hb_m := hF.hb_m
          have hb_n := hF.hb_n
          have ne_mn := hF.ne_mn
          have m1 := hF.m1
          have m2 := hF.m2
          have D12 := hF.D12
          have m1m := hF.m1m
          have m1n := hF.m1n
          have m2m := hF.m2m
          have m2n := hF.m2n
          clear hF
          have e0 : l1 = false := hz0; subst e0
          clear hz0 hd
          have B_a := hS.1
          have B_b := hS.2
          clear hS
          (try simp only [Act.put, List.setIfInBounds_toArray, List.set_cons_zero, List.set_cons_succ])
          replace k3_1 := Lib.hid k3_1
          replace r1 := Lib.hid r1
          replace r3 := Lib.hid r3
          replace r4 := Lib.hid r4
          replace r5 := Lib.hid r5
          go_simp
          refine (CBa.out _ (oa.below U).rd).mono ?_
          rintro e wo ⟨b1', c1', rfl, n1, u⟩
          replace B_a := (B_a).below u
          replace B_b := (B_b).below u
          exact hK.out _ _ ⟨B_a, B_b⟩ ⟨⟨true, l3, l4, l5, .agg #[.int .i64 s.party, .int .i64 s.step, .slice b1' (bodyL s).length c1'], v3, v4, v5, b1', c1', b2, c2, bx_m, bx_n⟩, rfl, by kernel_rfl, (show PRunBF wr s t true l3 l4 l5 (.agg #[.int .i64 s.party, .int .i64 s.step, .slice b1' (bodyL s).length c1']) v3 v4 v5 b1' c1' b2 c2 bx_m bx_n wo from ⟨((U).trans (u.mono (U).size)), (fun nd3 => (by cases k3_1.out nd3)), (fun nd1 => rfl), (fun nd3 => (by cases k3_1.out nd3)), (fun nd4 => (r4.out nd4)), (fun nd5 => (r5.out nd5)), (fun nd4 => ((Bm nd4)).below u), (fun nd5 => ((Bn nd5)).below u), (fun nd4 => ⟨((hb_m nd4)).1, Nat.lt_of_lt_of_le ((hb_m nd4)).2 u.size⟩), (fun nd5 => ⟨((hb_n nd5)).1, Nat.lt_of_lt_of_le ((hb_n nd5)).2 u.size⟩), (fun nd4 nd5 => (ne_mn nd4 nd5)), (fun nd1 => n1.lower U.size), (fun nd3 => (by cases k3_1.out nd3)), (fun nd1 nd3 => (by cases k3_1.out nd3)), (fun nd1 nd4 => fun hq => by have := n1.feet _ hq; have := (hb_m nd4).2; omega), (fun nd1 nd5 => fun hq => by have := n1.feet _ hq; have := (hb_n nd5).2; omega), (fun nd3 nd4 => (by cases k3_1.out nd3)), (fun nd3 nd5 => (by cases k3_1.out nd3))⟩)⟩
        refine StepsI.cons (o := ⟨some 27, _, _, _, _, _⟩) rfl ?_ ?_
        · intro lJ aJ wi K hS hJ hz0 hd hK
          obtain ⟨dJ, hJ⟩ := hJ
          obtain ⟨e1, hJ⟩ := hJ
          obtain ⟨e2, hF⟩ := hJ
          subst e1
          subst e2
          cases dJ with | mk l1 l3 l4 l5 v1 v3 v4 v5 b1 c1 b2 c2 bx_m bx_n =>
          replace hF : PRunBF wr s t l1 l3 l4 l5 v1 v3 v4 v5 b1 c1 b2 c2 bx_m bx_n wi := hF
          have U := hF.U
          have k3_1 := hF.k3_1
          have r1 := hF.r1
          have r3 := hF.r3
          have r4 := hF.r4
          have r5 := hF.r5
          have Bm := hF.Bm
          have Bn := hF.Bn
          have hb_m := hF.hb_m
          have hb_n := hF.hb_n
          have ne_mn := hF.ne_mn
          have m1 := hF.m1
          have m2 := hF.m2
          have D12 := hF.D12
          have m1m := hF.m1m
          have m1n := hF.m1n
          have m2m := hF.m2m
          have m2n := hF.m2n
          clear hF
          have e0 : l3 = false := hz0; subst e0
          have e1 : l1 = true := hd 1 (by kernel_rfl); subst e1
          clear hz0 hd
          have B_a := hS.1
          have B_b := hS.2
          clear hS
          (try simp only [Act.put, List.setIfInBounds_toArray, List.set_cons_zero, List.set_cons_succ])
          replace k3_1 := Lib.hid k3_1
          replace r1 := Lib.hid r1
          replace r3 := Lib.hid r3
          replace r4 := Lib.hid r4
          replace r5 := Lib.hid r5
          go_simp
          refine (CBb.out _ (ob.below U).rd).mono ?_
          rintro e wo ⟨b2', c2', rfl, n1, u⟩
          replace B_a := (B_a).below u
          replace B_b := (B_b).below u
          exact hK.out _ _ ⟨B_a, B_b⟩ ⟨⟨true, true, l4, l5, v1, .agg #[.int .i64 t.party, .int .i64 t.step, .slice b2' (bodyL t).length c2'], v4, v5, b1, c1, b2', c2', bx_m, bx_n⟩, rfl, by kernel_rfl, (show PRunBF wr s t true true l4 l5 v1 (.agg #[.int .i64 t.party, .int .i64 t.step, .slice b2' (bodyL t).length c2']) v4 v5 b1 c1 b2' c2' bx_m bx_n wo from ⟨((U).trans (u.mono (U).size)), (fun nd3 => rfl), (fun nd1 => (r1.out nd1)), (fun nd3 => rfl), (fun nd4 => (r4.out nd4)), (fun nd5 => (r5.out nd5)), (fun nd4 => ((Bm nd4)).below u), (fun nd5 => ((Bn nd5)).below u), (fun nd4 => ⟨((hb_m nd4)).1, Nat.lt_of_lt_of_le ((hb_m nd4)).2 u.size⟩), (fun nd5 => ⟨((hb_n nd5)).1, Nat.lt_of_lt_of_le ((hb_n nd5)).2 u.size⟩), (fun nd4 nd5 => (ne_mn nd4 nd5)), (fun nd1 => ((m1 nd1)).below u), (fun nd3 => n1.lower U.size), (fun nd1 nd3 => fun q hq hq' => by have := (m1 rfl).feet q hq; have := n1.feet q hq'; omega), (fun nd1 nd4 => (m1m nd1 nd4)), (fun nd1 nd5 => (m1n nd1 nd5)), (fun nd3 nd4 => fun hq => by have := n1.feet _ hq; have := (hb_m nd4).2; omega), (fun nd3 nd5 => fun hq => by have := n1.feet _ hq; have := (hb_n nd5).2; omega)⟩)⟩
        refine StepsI.cons (o := ⟨some 14, _, _, _, _, _⟩) rfl ?_ ?_
        · intro lJ aJ wi K hS hJ hz0 hd hK
          obtain ⟨dJ, hJ⟩ := hJ
          obtain ⟨e1, hJ⟩ := hJ
          obtain ⟨e2, hF⟩ := hJ
          subst e1
          subst e2
          cases dJ with | mk l1 l3 l4 l5 v1 v3 v4 v5 b1 c1 b2 c2 bx_m bx_n =>
          replace hF : PRunBF wr s t l1 l3 l4 l5 v1 v3 v4 v5 b1 c1 b2 c2 bx_m bx_n wi := hF
          have U := hF.U
          have k3_1 := hF.k3_1
          have r1 := hF.r1
          have r3 := hF.r3
          have r4 := hF.r4
          have r5 := hF.r5
          have Bm := hF.Bm
          have Bn := hF.Bn
          have hb_m := hF.hb_m
          have hb_n := hF.hb_n
          have ne_mn := hF.ne_mn
          have m1 := hF.m1
          have m2 := hF.m2
          have D12 := hF.D12
          have m1m := hF.m1m
          have m1n := hF.m1n
          have m2m := hF.m2m
          have m2n := hF.m2n
          clear hF
          have e0 : l4 = false := hz0; subst e0
          clear hz0 hd
          have B_a := hS.1
          have B_b := hS.2
          clear hS
          (try simp only [Act.put, List.setIfInBounds_toArray, List.set_cons_zero, List.set_cons_succ])
          replace k3_1 := Lib.hid k3_1
          replace r1 := Lib.hid r1
          replace r3 := Lib.hid r3
          replace r4 := Lib.hid r4
          replace r5 := Lib.hid r5
          go_simp
          refine Exists.elim (Blk.new_ wi rfl 44 #[.int .i64 0, .int .i64 0, .slice none 0 0]) (fun wo q => ?_)
          rw [q.1]
          have B_m := q.2.1; have u := q.2.2.2; have ha : wi.heap.size < wo.heap.size := Nat.le_of_eq q.2.2.1.symm; clear q
          replace B_a := (B_a).below u
          replace B_b := (B_b).below u
          exact hK.out _ _ ⟨B_a, B_b⟩ ⟨⟨l1, l3, true, l5, v1, v3, .pointer (some ⟨wi.heap.size, 0, none⟩), v5, b1, c1, b2, c2, wi.heap.size, bx_n⟩, rfl, by kernel_rfl, (show PRunBF wr s t l1 l3 true l5 v1 v3 (.pointer (some ⟨wi.heap.size, 0, none⟩)) v5 b1 c1 b2 c2 wi.heap.size bx_n wo from ⟨((U).trans (u.mono (U).size)), (fun nd3 => (k3_1.out nd3)), (fun nd1 => (r1.out nd1)), (fun nd3 => (r3.out nd3)), (fun nd4 => rfl), (fun nd5 => (r5.out nd5)), (fun nd4 => B_m), (fun nd5 => ((Bn nd5)).below u), (fun nd4 => ⟨U.size, ha⟩), (fun nd5 => ⟨((hb_n nd5)).1, Nat.lt_of_lt_of_le ((hb_n nd5)).2 u.size⟩), (fun nd4 nd5 => by have := (hb_n nd5).2; omega), (fun nd1 => ((m1 nd1)).below u), (fun nd3 => ((m2 nd3)).below u), (fun nd1 nd3 => (D12 nd1 nd3)), (fun nd1 nd4 => fun hq => by have := (m1 nd1).feet _ hq; omega), (fun nd1 nd5 => (m1n nd1 nd5)), (fun nd3 nd4 => fun hq => by have := (m2 nd3).feet _ hq; omega), (fun nd3 nd5 => (m2n nd3 nd5))⟩)⟩
        refine StepsI.cons (o := ⟨some 15, _, _, _, _, _⟩) rfl ?_ ?_
        · intro lJ aJ wi K hS hJ hz0 hd hK
          obtain ⟨dJ, hJ⟩ := hJ
          obtain ⟨e1, hJ⟩ := hJ
          obtain ⟨e2, hF⟩ := hJ
          subst e1
          subst e2
          cases dJ with | mk l1 l3 l4 l5 v1 v3 v4 v5 b1 c1 b2 c2 bx_m bx_n =>
          replace hF : PRunBF wr s t l1 l3 l4 l5 v1 v3 v4 v5 b1 c1 b2 c2 bx_m bx_n wi := hF
          have U := hF.U
          have k3_1 := hF.k3_1
          have r1 := hF.r1
          have r3 := hF.r3
          have r4 := hF.r4
          have r5 := hF.r5
          have Bm := hF.Bm
          have Bn := hF.Bn
          have hb_m := hF.hb_m
          have hb_n := hF.hb_n
          have ne_mn := hF.ne_mn
          have m1 := hF.m1
          have m2 := hF.m2
          have D12 := hF.D12
          have m1m := hF.m1m
          have m1n := hF.m1n
          have m2m := hF.m2m
          have m2n := hF.m2n
          clear hF
          have e0 : l5 = false := hz0; subst e0
          clear hz0 hd
          have B_a := hS.1
          have B_b := hS.2
          clear hS
          (try simp only [Act.put, List.setIfInBounds_toArray, List.set_cons_zero, List.set_cons_succ])
          replace k3_1 := Lib.hid k3_1
          replace r1 := Lib.hid r1
          replace r3 := Lib.hid r3
          replace r4 := Lib.hid r4
          replace r5 := Lib.hid r5
          go_simp
          refine Exists.elim (Blk.new_ wi rfl 44 #[.int .i64 0, .int .i64 0, .slice none 0 0]) (fun wo q => ?_)
          rw [q.1]
          have B_n := q.2.1; have u := q.2.2.2; have ha : wi.heap.size < wo.heap.size := Nat.le_of_eq q.2.2.1.symm; clear q
          replace B_a := (B_a).below u
          replace B_b := (B_b).below u
          exact hK.out _ _ ⟨B_a, B_b⟩ ⟨⟨l1, l3, l4, true, v1, v3, v4, .pointer (some ⟨wi.heap.size, 0, none⟩), b1, c1, b2, c2, bx_m, wi.heap.size⟩, rfl, by kernel_rfl, (show PRunBF wr s t l1 l3 l4 true v1 v3 v4 (.pointer (some ⟨wi.heap.size, 0, none⟩)) b1 c1 b2 c2 bx_m wi.heap.size wo from ⟨((U).trans (u.mono (U).size)), (fun nd3 => (k3_1.out nd3)), (fun nd1 => (r1.out nd1)), (fun nd3 => (r3.out nd3)), (fun nd4 => (r4.out nd4)), (fun nd5 => rfl), (fun nd4 => ((Bm nd4)).below u), (fun nd5 => B_n), (fun nd4 => ⟨((hb_m nd4)).1, Nat.lt_of_lt_of_le ((hb_m nd4)).2 u.size⟩), (fun nd5 => ⟨U.size, ha⟩), (fun nd4 nd5 => by have := (hb_m nd4).2; omega), (fun nd1 => ((m1 nd1)).below u), (fun nd3 => ((m2 nd3)).below u), (fun nd1 nd3 => (D12 nd1 nd3)), (fun nd1 nd4 => (m1m nd1 nd4)), (fun nd1 nd5 => fun hq => by have := (m1 nd1).feet _ hq; omega), (fun nd3 nd4 => (m2m nd3 nd4)), (fun nd3 nd5 => fun hq => by have := (m2 nd3).feet _ hq; omega)⟩)⟩
        exact StepsI.nil
      case he =>
        intro aJ wc hS hJ
        obtain ⟨dJ, hJ⟩ := hJ
        obtain ⟨hl, hJ⟩ := hJ
        obtain ⟨e2, hF⟩ := hJ
        subst e2
        cases dJ with | mk l1 l3 l4 l5 v1 v3 v4 v5 b1 c1 b2 c2 bx_m bx_n =>
        replace hF : PRunBF wr s t l1 l3 l4 l5 v1 v3 v4 v5 b1 c1 b2 c2 bx_m bx_n wc := hF
        have U := hF.U
        have k3_1 := hF.k3_1
        have r1 := hF.r1
        have r3 := hF.r3
        have r4 := hF.r4
        have r5 := hF.r5
        have Bm := hF.Bm
        have Bn := hF.Bn
        have hb_m := hF.hb_m
        have hb_n := hF.hb_n
        have ne_mn := hF.ne_mn
        have m1 := hF.m1
        have m2 := hF.m2
        have D12 := hF.D12
        have m1m := hF.m1m
        have m1n := hF.m1n
        have m2m := hF.m2m
        have m2n := hF.m2n
        clear hF
        have e1 : true = l1 := congrArg (fun q : Array Bool => q.getD 1 true) hl; subst e1
        have e3 : true = l3 := congrArg (fun q : Array Bool => q.getD 3 true) hl; subst e3
        have e4 : true = l4 := congrArg (fun q : Array Bool => q.getD 4 true) hl; subst e4
        have e5 : true = l5 := congrArg (fun q : Array Bool => q.getD 5 true) hl; subst e5
        clear hl k3_1
        replace r1 := r1 rfl
        replace r3 := r3 rfl
        replace r4 := r4 rfl
        replace r5 := r5 rfl
        replace Bm := Bm rfl
        replace Bn := Bn rfl
        replace hb_m := hb_m rfl
        replace hb_n := hb_n rfl
        replace ne_mn := ne_mn rfl rfl
        replace m1 := m1 rfl
        replace m2 := m2 rfl
        replace D12 := D12 rfl rfl
        replace m1m := m1m rfl rfl
        replace m1n := m1n rfl rfl
        replace m2m := m2m rfl rfl
        replace m2n := m2n rfl rfl
        have hHeld := hS
        have B_a := hS.1
        have B_b := hS.2
        clear hS
        (try simp only [Act.put, List.setIfInBounds_toArray, List.set_cons_zero, List.set_cons_succ])
        subst r1 r3 r4 r5
        have B_m := Bm; have B_n := Bn
        clear Bm Bn
        replace B_r := B_r.below U
        replace B_q := B_q.below U
        replace oa := (oa.re (G := [w.heap.size, w.heap.size + 1, w.heap.size + 2, w.heap.size + 3] ++ foot p c ++ [bx_m, bx_n]) (fun q hq => by have := hb_m.1; have := hb_n.1; rcases List.mem_append.1 hq with h | h; exact Or.inl h; simp at h; right; omega)).below U
        replace ob := (ob.re (G := [w.heap.size, w.heap.size + 1, w.heap.size + 2, w.heap.size + 3] ++ foot p c ++ [bx_m, bx_n]) (fun q hq => by have := hb_m.1; have := hb_n.1; rcases List.mem_append.1 hq with h | h; exact Or.inl h; simp at h; right; omega)).below U
        replace om := om.below U
        have Q_m1 := Lib.hid m1.feet
        have Q_m2 := Lib.hid m2.feet
        have SU := U.size
        have G_all : Only [bx_m, bx_n] wc wc := Only.refl _ _
        refine wpAnyH_ready (rs := [6]) (by kernel_rfl) (by simp) ?_
        refine AllReadyH.cons (o := ⟨none, _, _, _, _, _⟩) rfl (fun K hK => ?_) ?_
        refine step_st B_m (by simp [Region.wanted]) _ _ _ (by rfl) (by rfl) (by rfl) (by kernel_rfl) (by rfl) (by simp [Value.oneCell']) ?_
        intro wS6 B_m' G
        replace B_m := B_m'; clear B_m'
        replace B_a := B_a.only G (by first | (simp; done) | (simp; omega))
        replace B_b := B_b.only G (by first | (simp; done) | (simp; omega))
        replace B_r := B_r.only G (by first | (simp; done) | (simp; omega))
        replace B_q := B_q.only G (by first | (simp; done) | (simp; omega))
        replace B_n := B_n.only G (by first | (simp; done) | (simp; omega))
        replace om := om.only G (fun q hq hq' => by have := Q_om.out q hq; simp at hq'; omega)
        replace m1 := m1.only G (fun q hq hq' => by simp at hq'; subst hq'; exact m1m hq)
        replace m2 := m2.only G (fun q hq hq' => by simp at hq'; subst hq'; exact m2m hq)
        replace oa := oa.only (G.more (by intro q hq; simp at hq; simp [hq]))
        replace ob := ob.only (G.more (by intro q hq; simp at hq; simp [hq]))
        replace G_all := G_all.trans (G.more (F' := [bx_m, bx_n]) (by simp))
        clear G
        refine hK.out _ _ ?_ (fun hHeld => ?_)
        · exact ⟨B_a, B_b⟩
        clear hK K
        (try simp only [pt_])
        refine wpAnyH_ready (rs := [7]) (by kernel_rfl) (by simp) ?_
        refine AllReadyH.cons (o := ⟨none, _, _, _, _, _⟩) rfl (fun K hK => ?_) ?_
        refine step_st B_n (by simp [Region.wanted]) _ _ _ (by rfl) (by rfl) (by rfl) (by kernel_rfl) (by rfl) (by simp [Value.oneCell']) ?_
        intro wS7 B_n' G
        replace B_n := B_n'; clear B_n'
        replace B_a := B_a.only G (by first | (simp; done) | (simp; omega))
        replace B_b := B_b.only G (by first | (simp; done) | (simp; omega))
        replace B_r := B_r.only G (by first | (simp; done) | (simp; omega))
        replace B_q := B_q.only G (by first | (simp; done) | (simp; omega))
        replace B_m := B_m.only G (by first | (simp; done) | (simp; omega))
        replace om := om.only G (fun q hq hq' => by have := Q_om.out q hq; simp at hq'; omega)
        replace m1 := m1.only G (fun q hq hq' => by simp at hq'; subst hq'; exact m1n hq)
        replace m2 := m2.only G (fun q hq hq' => by simp at hq'; subst hq'; exact m2n hq)
        replace oa := oa.only (G.more (by intro q hq; simp at hq; simp [hq]))
        replace ob := ob.only (G.more (by intro q hq; simp at hq; simp [hq]))
        replace G_all := G_all.trans (G.more (F' := [bx_m, bx_n]) (by simp))
        clear G
        refine hK.out _ _ ?_ (fun hHeld => ?_)
        · exact ⟨B_a, B_b⟩
        clear hK K
        (try simp only [pt_])
        refine wpAnyH_done (by kernel_rfl) ?_ _
        refine NoPanic.normal ?_
        rotate_left 1
        exact AllReadyH.nil
        exact AllReadyH.nil
        have V5 : Below wr.heap.size wr wS7 := U.trans (G_all.below U.size (by intro q hq; simp at hq; omega))
        have SG := G_all.size
        clear G_all U
        have NM := om.foot
        have e_m := B_m.all3
        have e_n := B_n.all3
        go_wp2_with (at_builtin; refine wpList_appM2 wS7 rfl _ _ rfl (w.heap.size + 4) p N c D Fm om rfl s.party s.step t.party t.step b1 c1 (bodyL s) b2 c2 (bodyL t) (m1.lower (by omega)) (m2.lower (by omega)) D12 (fun q hq hq' => by have := Q_m1.out q hq; have := Q_om.out q hq'; omega) (fun q hq hq' => by have := Q_m2.out q hq; have := Q_om.out q hq'; omega) rfl (by have := hN.out; omega) (by omega) ?_)
        clear e_m e_n
        intro a5 c5 w7 Fm' om' hX7 o7 hP7
        have SZ7 := o7.size
        have hf : ∀ q ∈ foot p c, w.heap.size + 4 ≤ q ∧ q < wr.heap.size := fun q hq => Q_om.out q (NM q hq)
        have s7 : wr.heap.size ≤ w7.heap.size := by have := V5.size; omega
        replace B_a := B_a.only o7 (fun hq => by have := hf _ hq; omega)
        replace B_b := B_b.only o7 (fun hq => by have := hf _ hq; omega)
        replace B_r := B_r.only o7 (fun hq => by have := hf _ hq; omega)
        replace B_q := B_q.only o7 (fun hq => by have := hf _ hq; omega)
        replace B_m := B_m.only o7 (fun hq => by have := hf _ hq; omega)
        replace B_n := B_n.only o7 (fun hq => by have := hf _ hq; omega)
        have hm5 : ∀ q ∈ foot a5 c5, q ∈ foot p c ∨ wS7.heap.size ≤ q := fun q hq => by
          by_cases h1 : q ∈ foot p c
          · exact Or.inl h1
          · by_cases h2 : q < wS7.heap.size
            · exact absurd hq (hP7 [q] (by intro y hy; simp at hy; subst hy; exact h1) (by simpa using h2) q (by simp))
            · right; omega
        obtain ⟨F8, hF8⟩ : ∃ F, F = [w.heap.size, w.heap.size + 1, w.heap.size + 2, w.heap.size + 3] ++ foot a5 c5 ++ foot p c ++ [bx_m, bx_n] := ⟨_, rfl⟩
        have Q5 := om'.feet
        have N5 := om'.foot
        have F8lt : ∀ q ∈ F8, q < w7.heap.size := fun q hq => by
          rw [hF8] at hq
          simp only [List.mem_append, List.mem_cons, List.not_mem_nil, or_false] at hq
          rcases hq with ((h | h) | h) | h
          · omega
          · exact (Q5 q (N5 q h)).2
          · have := hf q h; omega
          · have := hb_m.2; have := hb_n.2; omega
        have inF : w.heap.size ∈ F8 ∧ w.heap.size + 1 ∈ F8 ∧ bx_m ∈ F8 ∧ bx_n ∈ F8 := by rw [hF8]; simp
        have op8 : Only F8 wS7 w7 := o7.more (fun q hq => by rw [hF8]; simp [hq])
        have h8 : ∀ q ∈ F8, q ∈ [w.heap.size, w.heap.size + 1, w.heap.size + 2, w.heap.size + 3] ++ foot p c ++ [bx_m, bx_n] ∨ wS7.heap.size ≤ q := fun q hq => by
          rw [hF8] at hq
          simp only [List.mem_append] at hq ⊢
          rcases hq with ((h | h) | h) | h
          · exact Or.inl (Or.inl (Or.inl h))
          · exact (hm5 q h).elim (fun h => Or.inl (Or.inl (Or.inr h))) Or.inr
          · exact Or.inl (Or.inl (Or.inr h))
          · exact Or.inl (Or.inr h)
        replace oa := (oa.re h8).only op8
        replace ob := (ob.re h8).only op8
        have hN8 : ∀ q ∈ [w.heap.size, w.heap.size + 1, w.heap.size + 2, w.heap.size + 3] ++ foot a5 c5, q ∈ F8 := fun q hq => by rw [hF8, List.append_assoc]; exact List.mem_append_left _ hq
        have h15 : ∀ q ∈ foot b1 c1, q ∉ F8 := fun q hq hq' => by
          have w1 := Q_m1.out q hq
          rcases h8 q hq' with h | h
          · simp only [List.mem_append, List.mem_cons, List.not_mem_nil, or_false] at h
            rcases h with (h | h) | h
            · omega
            · have := hf q h; omega
            · rcases h with h | h
              · rw [h] at hq; exact m1m hq
              · rw [h] at hq; exact m1n hq
          · omega
        have h25 : ∀ q ∈ foot b2 c2, q ∉ F8 := fun q hq hq' => by
          have w1 := Q_m2.out q hq
          rcases h8 q hq' with h | h
          · simp only [List.mem_append, List.mem_cons, List.not_mem_nil, or_false] at h
            rcases h with (h | h) | h
            · omega
            · have := hf q h; omega
            · rcases h with h | h
              · rw [h] at hq; exact m2m hq
              · rw [h] at hq; exact m2n hq
          · omega
        have O1 : Off F8 b1 (bodyL s).length := fun hn y hy => h15 _ (by rw [hy]; exact foot_mem (by have := m1.cap; omega))
        have O2 : Off F8 b2 (bodyL t).length := fun hn y hy => h25 _ (by rw [hy]; exact foot_mem (by have := m2.cap; omega))
        have J1 := m1.ints.onlyOff op8 O1
        have J2 := m2.ints.onlyOff op8 O2
        have HB : Disj Fm' [w.heap.size, w.heap.size + 1, bx_m, bx_n] := (hX7 [w.heap.size, w.heap.size + 1, bx_m, bx_n] (fun q hq hq' => by have := Q_om.out q hq'; simp at hq; have := hb_m.1; have := hb_n.1; omega)
          (fun q hq hq' => by have := Q_m1.out q hq'; simp at hq; rcases hq with h | h | h | h <;> first | omega | (rw [h] at hq'; first | exact m1m hq' | exact m1n hq'))
          (fun q hq hq' => by have := Q_m2.out q hq'; simp at hq; rcases hq with h | h | h | h <;> first | omega | (rw [h] at hq'; first | exact m2m hq' | exact m2n hq')) (fun q hq => by simp at hq; have := hb_m.2; have := hb_n.2; omega)).symm
        have V7 : Below w.heap.size w w7 := (V_wr.out.trans (V5.mono (by omega))).trans (o7.below (by omega) (fun q hq => by have := hf q hq; omega))
        have s7' : w.heap.size + 4 ≤ w7.heap.size := by omega
        have hbm7 : wr.heap.size ≤ bx_m ∧ bx_m < w7.heap.size ∧ wr.heap.size ≤ bx_n ∧ bx_n < w7.heap.size := by have := hb_m; have := hb_n; omega
        clear hX7 hP7 m1 m2 op8 h8 h15 h25 hm5 Q5 N5 o7 SZ7 D12 m1m m1n m2m m2n V5 SG SU om Q_m1 Q_m2 NM hf SZ hb_m hb_n Q_om
        replace hF8 := Lib.hid hF8
        replace F8lt := Lib.hid F8lt
        replace hN8 := Lib.hid hN8
        replace O1 := Lib.hid O1
        replace O2 := Lib.hid O2
        replace HB := Lib.hid HB
        replace inF := Lib.hid inF
        have RNX := Lib.hid (RunE.next hlt LRS.out HRE.out)
        have hst3 : Hid (s.step = k ∧ t.step = k) := Lib.hid ⟨LRS.out.sa, LRS.out.sb⟩
        have wPS : 1 ≤ s.P ∧ s.P ≤ 1000 := ⟨by have := hsn.out.p1; omega, by have := hsn.out.p2; omega⟩
        have wPT : 1 ≤ t.P ∧ t.P ≤ 1000 := ⟨by have := htn.out.p1; omega, by have := htn.out.p2; omega⟩
        have blS := Lib.hid (bodyL_len s hsn.out (by have := hst3.out; omega))
        have blT := Lib.hid (bodyL_len t htn.out (by have := hst3.out; omega))
        have wN1 : wrap64 (N : Int) = (N : Int) := by have := hN.out; exact IntWalk.wrap64_in _ (by omega)
        have wN2 : wrap64 ((N : Int) + 1) = (N : Int) + 1 := by have := hN.out; exact IntWalk.wrap64_in _ (by omega)
        have wN3 : wrap64 ((N : Int) + 2 - 1) = (N : Int) + 1 := by have := hN.out; rw [show ((N : Int) + 2 - 1) = (N : Int) + 1 by omega]; exact wN2
        have WN := Lib.hid (And.intro wN1 (And.intro wN2 wN3))
        clear wN1 wN2 wN3
        have hN0 := hN.out
        by_cases hA : at_ = (N : Int)
        · have d3 : ((at_ == (N : Int)) : Bool) = true := by simpa using hA
          clear hN0
          obtain ⟨cm, hcm2⟩ : ∃ q : MsD, (1, t.step, bodyL t) = q := ⟨_, rfl⟩
          obtain ⟨cn, hcn2⟩ : ∃ q : MsD, (0, s.step, bendI s.P (bodyL s) i kk) = q := ⟨_, rfl⟩
          have hcm : Hid (chgP a.P at_ i kk (D.length + 1) (mesP 1 t) = cm) := Lib.hid (by rw [← hcm2]; unfold chgP mesP; rw [if_neg (by have := hDl.out; omega)])
          have hcn : Hid (chgP a.P at_ i kk D.length (mesP 0 s) = cn) := Lib.hid (by rw [← hcn2]; unfold chgP mesP; rw [if_pos (by have := hDl.out; omega), hsP.out])
          replace hcm2 := Lib.hid hcm2
          replace hcn2 := Lib.hid hcn2
          replace hA := Lib.hid hA
          have e_a_0 := B_a.a11_0
          have e_m := B_m.all3
          have KKR : i < blen (at_ / 2).toNat ∧ 0 ≤ kk ∧ kk ≤ a.P - 1 := by rcases LA.out with h | h; exact absurd h (by have := hA.out; omega); exact ⟨h.2.2.1, h.2.2.2⟩
          have hiL : i < (bodyL s).length := by rw [blS.out, hst3.out.1, show ((k : Int)).toNat = (at_ / 2).toNat by have := hN.out; have := hA.out; omega]; exact KKR.1
          obtain ⟨wN1, wN2, wN3⟩ := WN.out
          go_wp2_with fail
          clear wN1 wN2 wN3
          clear e_a_0 e_m
          refine (ptBend_any s.P s.party s.step b1 _ c1 (bodyL s) i kk _ J1 (by rw [blS.out]; have := blen_bd s.step.toNat; omega) wPS.1 wPS.2 (fun v hv => by have := bodyL_rng s hsn.out v hv; exact this) hiL KKR.2.1 (by rw [hsP.out]; exact KKR.2.2)).mono ?_
          rintro e wJ ⟨bb, bc, rfl, mb, UX⟩
          replace oa := oa.below UX
          replace ob := ob.below UX
          replace om' := om'.below UX
          replace J2 := J2.below UX
          have UX2 := UX
          replace B_a := B_a.below UX2
          replace B_b := B_b.below UX2
          replace B_r := B_r.below UX2
          replace B_q := B_q.below UX2
          replace B_m := B_m.below UX2
          replace B_n := B_n.below UX2
          have S_wJ := UX2.size
          have V_wJ : Below w.heap.size w wJ := V7.trans (UX2.mono V7.size)
          clear V7
          clear UX2
          have Q_mb := Lib.hid mb.feet
          have OB : Hid (Off F8 bb (bodyL s).length) := Lib.hid (fun hn y hy hm => by have q1 := Q_mb.out y.block (by rw [hy]; exact foot_mem (by have := mb.cap; omega)); have := F8lt.out _ hm; omega)
          have JB := mb.ints
          clear mb Q_mb
          have e_m := B_m.all3
          have f_m := B_m.frz3
          go_upto_region 10 with fail
          clear e_m f_m
          refine Exists.elim (B_m.row3 (.int .i64 s.party) (.int .i64 s.step) (.slice bb (bodyL s).length bc)) (fun w2' q => ?_)
          rw [q.1]; replace B_m := q.2.1; have G := q.2.2; clear q
          have V_w2' := (V_wJ).trans (G.below (V_wJ).size (fun q hq => by have := (V_wJ).size; simp at hq; omega))
          replace B_a := B_a.only G (by first | (simp; done) | (simp; omega))
          replace B_b := B_b.only G (by first | (simp; done) | (simp; omega))
          replace B_r := B_r.only G (by first | (simp; done) | (simp; omega))
          replace B_q := B_q.only G (by first | (simp; done) | (simp; omega))
          replace B_n := B_n.only G (by first | (simp; done) | (simp; omega))
          have sG0 := G.size
          have GX := G
          clear G
          clear V_wJ
          have S_w2' : wJ.heap.size + 0 ≤ w2'.heap.size := by omega
          clear sG0
          have GF := GX.more (F' := F8) (fun q hq => by simp at hq; rw [hq]; exact inF.out.2.2.1)
          replace oa := oa.only GF
          replace ob := ob.only GF
          replace om' := om'.only GX (fun q hq hq' => by simp at hq'; rw [hq'] at hq; exact HB.out _ hq (by simp))
          replace J2 := J2.onlyOff GF O2.out
          replace JB := JB.onlyOff GF OB.out
          clear GF GX
          have LMS := Lib.hid (J2).len
          have e_a := B_a.all11
          have e_n := B_n.all3
          go_wp2_with fail
          clear e_a e_n
          have CT := ptTake_B s xs t.party t.step b2 _ c2 (bodyL t) w2' F8 (fun q hq => by have := F8lt.out q hq; omega) oa J2 hsn.out (by have := hst3.out; omega)
          obtain ⟨s2, hs2⟩ : ∃ q, takeP s t.party t.step (bodyL t) = q := ⟨_, rfl⟩
          rw [hs2] at CT
          replace hs2 := Lib.hid hs2
          refine CT.mono ?_
          clear CT
          rintro e wK ⟨xa, rfl, pa2, UX⟩
          replace ob := ob.below UX
          replace om' := om'.below UX
          replace JB := JB.below UX
          have UX2 := UX
          replace B_a := B_a.below UX2
          replace B_b := B_b.below UX2
          replace B_r := B_r.below UX2
          replace B_q := B_q.below UX2
          replace B_m := B_m.below UX2
          replace B_n := B_n.below UX2
          have S_wK := UX2.size
          have V_wK : Below w.heap.size w wK := V_w2'.trans (UX2.mono V_w2'.size)
          clear V_w2'
          clear UX2
          have e_a := B_a.all11
          have f_a := B_a.frz11
          go_upto_region 11 with fail
          clear e_a f_a
          refine Exists.elim (B_a.row11 (.int .i64 s2.P) (.int .i64 s2.party) (.int .i64 s2.input) (.int .i64 s2.mask) (.int .i64 s2.delta) (.slice xa.sa xa.sn xa.sc) (.slice xa.ka xa.kn xa.kc) (.int .i64 s2.step) (.slice xa.ha xa.hn xa.hc) (.int .i64 s2.status) (.int .i64 s2.out)) (fun w3' q => ?_)
          rw [q.1]; replace B_a := q.2.1; have G := q.2.2; clear q
          have V_w3' := (V_wK).trans (G.below (V_wK).size (fun q hq => by have := (V_wK).size; simp at hq; omega))
          replace B_b := B_b.only G (by first | (simp; done) | (simp; omega))
          replace B_r := B_r.only G (by first | (simp; done) | (simp; omega))
          replace B_q := B_q.only G (by first | (simp; done) | (simp; omega))
          replace B_m := B_m.only G (by first | (simp; done) | (simp; omega))
          replace B_n := B_n.only G (by first | (simp; done) | (simp; omega))
          have sG0 := G.size
          have GX := G
          clear G
          clear V_wK
          have S_w3' : wK.heap.size + 0 ≤ w3'.heap.size := by omega
          clear sG0
          have GF := GX.more (F' := F8) (fun q hq => by simp at hq; rw [hq]; exact inF.out.1)
          replace pa2 := pa2.only GF
          replace ob := ob.only GF
          replace om' := om'.only GX (fun q hq hq' => by simp at hq'; rw [hq'] at hq; exact HB.out _ hq (by simp))
          replace JB := JB.onlyOff GF OB.out
          clear GF GX
          have e_b := B_b.all11
          have e_m := B_m.all3
          go_wp2_with fail
          clear e_b e_m
          have CT := ptTake_B t ys s.party s.step bb _ bc (bendI s.P (bodyL s) i kk) w3' F8 (fun q hq => by have := F8lt.out q hq; omega) ob JB htn.out (by have := hst3.out; omega)
          obtain ⟨t2, ht2⟩ : ∃ q, takeP t s.party s.step (bendI s.P (bodyL s) i kk) = q := ⟨_, rfl⟩
          rw [ht2] at CT
          replace ht2 := Lib.hid ht2
          refine CT.mono ?_
          clear CT
          rintro e wL ⟨xb, rfl, pb2, UX⟩
          replace pa2 := pa2.below UX
          replace om' := om'.below UX
          have UX2 := UX
          replace B_a := B_a.below UX2
          replace B_b := B_b.below UX2
          replace B_r := B_r.below UX2
          replace B_q := B_q.below UX2
          replace B_m := B_m.below UX2
          replace B_n := B_n.below UX2
          have S_wL := UX2.size
          have V_wL : Below w.heap.size w wL := V_w3'.trans (UX2.mono V_w3'.size)
          clear V_w3'
          clear UX2
          have e_b := B_b.all11
          have f_b := B_b.frz11
          go_wp2_with fail
          clear e_b f_b
          refine Exists.elim (B_b.row11 (.int .i64 t2.P) (.int .i64 t2.party) (.int .i64 t2.input) (.int .i64 t2.mask) (.int .i64 t2.delta) (.slice xb.sa xb.sn xb.sc) (.slice xb.ka xb.kn xb.kc) (.int .i64 t2.step) (.slice xb.ha xb.hn xb.hc) (.int .i64 t2.status) (.int .i64 t2.out)) (fun w4' q => ?_)
          rw [q.1]; replace B_b := q.2.1; have G := q.2.2; clear q
          have V_w4' := (V_wL).trans (G.below (V_wL).size (fun q hq => by have := (V_wL).size; simp at hq; omega))
          replace B_a := B_a.only G (by first | (simp; done) | (simp; omega))
          replace B_r := B_r.only G (by first | (simp; done) | (simp; omega))
          replace B_q := B_q.only G (by first | (simp; done) | (simp; omega))
          replace B_m := B_m.only G (by first | (simp; done) | (simp; omega))
          replace B_n := B_n.only G (by first | (simp; done) | (simp; omega))
          have sG0 := G.size
          have GX := G
          clear G
          clear V_wL
          have S_w4' : wL.heap.size + 0 ≤ w4'.heap.size := by omega
          clear sG0
          have GF := GX.more (F' := F8) (fun q hq => by simp at hq; rw [hq]; exact inF.out.2.1)
          replace pa2 := pa2.only GF
          replace pb2 := pb2.only GF
          replace om' := om'.only GX (fun q hq hq' => by simp at hq'; rw [hq'] at hq; exact HB.out _ hq (by simp))
          clear GF GX
          have RN2 := RNX.out
          rw [hcm.out, hcn.out] at RN2
          have e1 : takeM s cm = s2 := by rw [← hs2.out, ← hcm2.out]; unfold takeM; rw [htpa.out]
          have e2 : takeM t cn = t2 := by rw [← ht2.out, ← hcn2.out]; unfold takeM; rw [hspa.out]
          have PX : PlN s2 ∧ PlN t2 ∧ s2.P = a.P ∧ t2.P = a.P ∧ s2.party = 0 ∧ t2.party = 1 := by
            rw [← e1, ← e2, takeM_P, takeM_P, takeM_party, takeM_party]; exact ⟨(takeM_n LRS.out (by omega) cm cn).1, (takeM_n LRS.out (by omega) cm cn).2, hsP.out, htP.out, hspa.out, htpa.out⟩
          rw [e1, e2] at RN2
          have DM : D ++ [mesP 0 s, mesP 1 t] = D ++ [(s.party, s.step, bodyL s), (t.party, t.step, bodyL t)] := by unfold mesP; rw [hspa.out, htpa.out]
          rw [DM] at RN2
          have VV : Below w.heap.size w w4' := V_w4'
          have hN2 : N + 2 = 2 * (k + 1) := by have := hN.out; omega
          have KP : w.heap.size + 4 ≤ w4'.heap.size := by omega
          replace RN2 := Lib.hid RN2
          replace PX := Lib.hid PX
          clear e1 e2 DM
          go_wp2
          go_roundw
          case rel => exact ⟨⟨k + 1, s2, t2, D ++ [(s.party, s.step, bodyL s), (t.party, t.step, bodyL t)], xa, xb, a5, c5, Fm'⟩, by rw [hN2], (show PRunLF (chgP a.P at_ i kk) RP a.P w (k + 1) s2 t2 (D ++ [(s.party, s.step, bodyL s), (t.party, t.step, bodyL t)]) xa xb a5 c5 Fm' w4' from ⟨by omega, VV, B_r, B_q, KP, by have := hDl.out; simp; omega, B_a, B_b, pa2.re (fun q hq => Or.inl (hN8.out q hq)), pb2.re (fun q hq => Or.inl (hN8.out q hq)), hN2 ▸ om', PX.out.1, PX.out.2.1, PX.out.2.2.1, PX.out.2.2.2.1, PX.out.2.2.2.2.1, PX.out.2.2.2.2.2, RN2.out⟩)⟩
          case measure => simp [lenV]; have := hN.out; omega
        · have d3 : ((at_ == (N : Int)) : Bool) = false := by simpa using hA
          by_cases hB : at_ = (N : Int) + 1
          · have d4 : ((at_ == (N : Int) + 1) : Bool) = true := by simpa using hB
            clear hN0
            obtain ⟨cm, hcm2⟩ : ∃ q : MsD, (1, t.step, bendI t.P (bodyL t) i kk) = q := ⟨_, rfl⟩
            obtain ⟨cn, hcn2⟩ : ∃ q : MsD, (0, s.step, bodyL s) = q := ⟨_, rfl⟩
            have hcm : Hid (chgP a.P at_ i kk (D.length + 1) (mesP 1 t) = cm) := Lib.hid (by rw [← hcm2]; unfold chgP mesP; rw [if_pos (by have := hDl.out; omega), htP.out])
            have hcn : Hid (chgP a.P at_ i kk D.length (mesP 0 s) = cn) := Lib.hid (by rw [← hcn2]; unfold chgP mesP; rw [if_neg (by have := hDl.out; omega)])
            replace hcm2 := Lib.hid hcm2
            replace hcn2 := Lib.hid hcn2
            replace hA := Lib.hid hA
            replace hB := Lib.hid hB
            have e_a_0 := B_a.a11_0
            have e_n := B_n.all3
            have PPE : Hid (s.P = t.P) := Lib.hid (by rw [hsP.out, htP.out])
            have KKR : i < blen (at_ / 2).toNat ∧ 0 ≤ kk ∧ kk ≤ a.P - 1 := by rcases LA.out with h | h; exact absurd h (by have := hB.out; omega); exact ⟨h.2.2.1, h.2.2.2⟩
            have hiL : i < (bodyL t).length := by rw [blT.out, hst3.out.2, show ((k : Int)).toNat = (at_ / 2).toNat by have := hN.out; have := hB.out; omega]; exact KKR.1
            obtain ⟨wN1, wN2, wN3⟩ := WN.out
            go_wp2_with fail
            clear wN1 wN2 wN3
            clear e_a_0 e_n
            refine (ptBend_any s.P t.party t.step b2 _ c2 (bodyL t) i kk _ J2 (by rw [blT.out]; have := blen_bd t.step.toNat; omega) wPS.1 wPS.2 (fun v hv => by have := bodyL_rng t htn.out v hv; rw [← PPE.out] at this; exact this) hiL KKR.2.1 (by rw [hsP.out]; exact KKR.2.2)).mono ?_
            rintro e wJ ⟨bb, bc, rfl, mb, UX⟩
            rw [PPE.out] at mb
            replace oa := oa.below UX
            replace ob := ob.below UX
            replace om' := om'.below UX
            replace J1 := J1.below UX
            have UX2 := UX
            replace B_a := B_a.below UX2
            replace B_b := B_b.below UX2
            replace B_r := B_r.below UX2
            replace B_q := B_q.below UX2
            replace B_m := B_m.below UX2
            replace B_n := B_n.below UX2
            have S_wJ := UX2.size
            have V_wJ : Below w.heap.size w wJ := V7.trans (UX2.mono V7.size)
            clear V7
            clear UX2
            have Q_mb := Lib.hid mb.feet
            have OB : Hid (Off F8 bb (bodyL t).length) := Lib.hid (fun hn y hy hm => by have q1 := Q_mb.out y.block (by rw [hy]; exact foot_mem (by have := mb.cap; omega)); have := F8lt.out _ hm; omega)
            have JB := mb.ints
            clear mb Q_mb
            have e_n := B_n.all3
            have f_n := B_n.frz3
            go_upto_region 10 with fail
            clear e_n f_n
            refine Exists.elim (B_n.row3 (.int .i64 t.party) (.int .i64 t.step) (.slice bb (bodyL t).length bc)) (fun w5' q => ?_)
            rw [q.1]; replace B_n := q.2.1; have G := q.2.2; clear q
            have V_w5' := (V_wJ).trans (G.below (V_wJ).size (fun q hq => by have := (V_wJ).size; simp at hq; omega))
            replace B_a := B_a.only G (by first | (simp; done) | (simp; omega))
            replace B_b := B_b.only G (by first | (simp; done) | (simp; omega))
            replace B_r := B_r.only G (by first | (simp; done) | (simp; omega))
            replace B_q := B_q.only G (by first | (simp; done) | (simp; omega))
            replace B_m := B_m.only G (by first | (simp; done) | (simp; omega))
            have sG0 := G.size
            have GX := G
            clear G
            clear V_wJ
            have S_w5' : wJ.heap.size + 0 ≤ w5'.heap.size := by omega
            clear sG0
            have GF := GX.more (F' := F8) (fun q hq => by simp at hq; rw [hq]; exact inF.out.2.2.2)
            replace oa := oa.only GF
            replace ob := ob.only GF
            replace om' := om'.only GX (fun q hq hq' => by simp at hq'; rw [hq'] at hq; exact HB.out _ hq (by simp))
            replace J1 := J1.onlyOff GF O1.out
            replace JB := JB.onlyOff GF OB.out
            clear GF GX
            have LMS := Lib.hid (JB).len
            have e_a := B_a.all11
            have e_n := B_n.all3
            go_wp2_with fail
            clear e_a e_n
            have CT := ptTake_B s xs t.party t.step bb _ bc (bendI t.P (bodyL t) i kk) w5' F8 (fun q hq => by have := F8lt.out q hq; omega) oa JB hsn.out (by have := hst3.out; omega)
            obtain ⟨s2, hs2⟩ : ∃ q, takeP s t.party t.step (bendI t.P (bodyL t) i kk) = q := ⟨_, rfl⟩
            rw [hs2] at CT
            replace hs2 := Lib.hid hs2
            refine CT.mono ?_
            clear CT
            rintro e wK ⟨xa, rfl, pa2, UX⟩
            replace ob := ob.below UX
            replace om' := om'.below UX
            replace J1 := J1.below UX
            have UX2 := UX
            replace B_a := B_a.below UX2
            replace B_b := B_b.below UX2
            replace B_r := B_r.below UX2
            replace B_q := B_q.below UX2
            replace B_m := B_m.below UX2
            replace B_n := B_n.below UX2
            have S_wK := UX2.size
            have V_wK : Below w.heap.size w wK := V_w5'.trans (UX2.mono V_w5'.size)
            clear V_w5'
            clear UX2
            have e_a := B_a.all11
            have f_a := B_a.frz11
            go_upto_region 11 with fail
            clear e_a f_a
            refine Exists.elim (B_a.row11 (.int .i64 s2.P) (.int .i64 s2.party) (.int .i64 s2.input) (.int .i64 s2.mask) (.int .i64 s2.delta) (.slice xa.sa xa.sn xa.sc) (.slice xa.ka xa.kn xa.kc) (.int .i64 s2.step) (.slice xa.ha xa.hn xa.hc) (.int .i64 s2.status) (.int .i64 s2.out)) (fun w6' q => ?_)
            rw [q.1]; replace B_a := q.2.1; have G := q.2.2; clear q
            have V_w6' := (V_wK).trans (G.below (V_wK).size (fun q hq => by have := (V_wK).size; simp at hq; omega))
            replace B_b := B_b.only G (by first | (simp; done) | (simp; omega))
            replace B_r := B_r.only G (by first | (simp; done) | (simp; omega))
            replace B_q := B_q.only G (by first | (simp; done) | (simp; omega))
            replace B_m := B_m.only G (by first | (simp; done) | (simp; omega))
            replace B_n := B_n.only G (by first | (simp; done) | (simp; omega))
            have sG0 := G.size
            have GX := G
            clear G
            clear V_wK
            have S_w6' : wK.heap.size + 0 ≤ w6'.heap.size := by omega
            clear sG0
            have GF := GX.more (F' := F8) (fun q hq => by simp at hq; rw [hq]; exact inF.out.1)
            replace pa2 := pa2.only GF
            replace ob := ob.only GF
            replace om' := om'.only GX (fun q hq hq' => by simp at hq'; rw [hq'] at hq; exact HB.out _ hq (by simp))
            replace J1 := J1.onlyOff GF O1.out
            clear GF GX
            have e_b := B_b.all11
            have e_m := B_m.all3
            go_wp2_with fail
            clear e_b e_m
            have CT := ptTake_B t ys s.party s.step b1 _ c1 (bodyL s) w6' F8 (fun q hq => by have := F8lt.out q hq; omega) ob J1 htn.out (by have := hst3.out; omega)
            obtain ⟨t2, ht2⟩ : ∃ q, takeP t s.party s.step (bodyL s) = q := ⟨_, rfl⟩
            rw [ht2] at CT
            replace ht2 := Lib.hid ht2
            refine CT.mono ?_
            clear CT
            rintro e wL ⟨xb, rfl, pb2, UX⟩
            replace pa2 := pa2.below UX
            replace om' := om'.below UX
            have UX2 := UX
            replace B_a := B_a.below UX2
            replace B_b := B_b.below UX2
            replace B_r := B_r.below UX2
            replace B_q := B_q.below UX2
            replace B_m := B_m.below UX2
            replace B_n := B_n.below UX2
            have S_wL := UX2.size
            have V_wL : Below w.heap.size w wL := V_w6'.trans (UX2.mono V_w6'.size)
            clear V_w6'
            clear UX2
            have e_b := B_b.all11
            have f_b := B_b.frz11
            go_wp2_with fail
            clear e_b f_b
            refine Exists.elim (B_b.row11 (.int .i64 t2.P) (.int .i64 t2.party) (.int .i64 t2.input) (.int .i64 t2.mask) (.int .i64 t2.delta) (.slice xb.sa xb.sn xb.sc) (.slice xb.ka xb.kn xb.kc) (.int .i64 t2.step) (.slice xb.ha xb.hn xb.hc) (.int .i64 t2.status) (.int .i64 t2.out)) (fun w7' q => ?_)
            rw [q.1]; replace B_b := q.2.1; have G := q.2.2; clear q
            have V_w7' := (V_wL).trans (G.below (V_wL).size (fun q hq => by have := (V_wL).size; simp at hq; omega))
            replace B_a := B_a.only G (by first | (simp; done) | (simp; omega))
            replace B_r := B_r.only G (by first | (simp; done) | (simp; omega))
            replace B_q := B_q.only G (by first | (simp; done) | (simp; omega))
            replace B_m := B_m.only G (by first | (simp; done) | (simp; omega))
            replace B_n := B_n.only G (by first | (simp; done) | (simp; omega))
            have sG0 := G.size
            have GX := G
            clear G
            clear V_wL
            have S_w7' : wL.heap.size + 0 ≤ w7'.heap.size := by omega
            clear sG0
            have GF := GX.more (F' := F8) (fun q hq => by simp at hq; rw [hq]; exact inF.out.2.1)
            replace pa2 := pa2.only GF
            replace pb2 := pb2.only GF
            replace om' := om'.only GX (fun q hq hq' => by simp at hq'; rw [hq'] at hq; exact HB.out _ hq (by simp))
            clear GF GX
            have RN2 := RNX.out
            rw [hcm.out, hcn.out] at RN2
            have e1 : takeM s cm = s2 := by rw [← hs2.out, ← hcm2.out]; unfold takeM; rw [htpa.out]
            have e2 : takeM t cn = t2 := by rw [← ht2.out, ← hcn2.out]; unfold takeM; rw [hspa.out]
            have PX : PlN s2 ∧ PlN t2 ∧ s2.P = a.P ∧ t2.P = a.P ∧ s2.party = 0 ∧ t2.party = 1 := by
              rw [← e1, ← e2, takeM_P, takeM_P, takeM_party, takeM_party]; exact ⟨(takeM_n LRS.out (by omega) cm cn).1, (takeM_n LRS.out (by omega) cm cn).2, hsP.out, htP.out, hspa.out, htpa.out⟩
            rw [e1, e2] at RN2
            have DM : D ++ [mesP 0 s, mesP 1 t] = D ++ [(s.party, s.step, bodyL s), (t.party, t.step, bodyL t)] := by unfold mesP; rw [hspa.out, htpa.out]
            rw [DM] at RN2
            have VV : Below w.heap.size w w7' := V_w7'
            have hN2 : N + 2 = 2 * (k + 1) := by have := hN.out; omega
            have KP : w.heap.size + 4 ≤ w7'.heap.size := by omega
            replace RN2 := Lib.hid RN2
            replace PX := Lib.hid PX
            clear e1 e2 DM
            go_wp2
            go_roundw
            case rel => exact ⟨⟨k + 1, s2, t2, D ++ [(s.party, s.step, bodyL s), (t.party, t.step, bodyL t)], xa, xb, a5, c5, Fm'⟩, by rw [hN2], (show PRunLF (chgP a.P at_ i kk) RP a.P w (k + 1) s2 t2 (D ++ [(s.party, s.step, bodyL s), (t.party, t.step, bodyL t)]) xa xb a5 c5 Fm' w7' from ⟨by omega, VV, B_r, B_q, KP, by have := hDl.out; simp; omega, B_a, B_b, pa2.re (fun q hq => Or.inl (hN8.out q hq)), pb2.re (fun q hq => Or.inl (hN8.out q hq)), hN2 ▸ om', PX.out.1, PX.out.2.1, PX.out.2.2.1, PX.out.2.2.2.1, PX.out.2.2.2.2.1, PX.out.2.2.2.2.2, RN2.out⟩)⟩
            case measure => simp [lenV]; have := hN.out; omega
          · have d4 : ((at_ == (N : Int) + 1) : Bool) = false := by simpa using hB
            clear hN0
            obtain ⟨cm, hcm2⟩ : ∃ q : MsD, (1, t.step, bodyL t) = q := ⟨_, rfl⟩
            obtain ⟨cn, hcn2⟩ : ∃ q : MsD, (0, s.step, bodyL s) = q := ⟨_, rfl⟩
            have hcm : Hid (chgP a.P at_ i kk (D.length + 1) (mesP 1 t) = cm) := Lib.hid (by rw [← hcm2]; unfold chgP mesP; rw [if_neg (by have := hDl.out; omega)])
            have hcn : Hid (chgP a.P at_ i kk D.length (mesP 0 s) = cn) := Lib.hid (by rw [← hcn2]; unfold chgP mesP; rw [if_neg (by have := hDl.out; omega)])
            replace hcm2 := Lib.hid hcm2
            replace hcn2 := Lib.hid hcn2
            replace hA := Lib.hid hA
            replace hB := Lib.hid hB
            obtain ⟨wN1, wN2, wN3⟩ := WN.out
            go_upto_region 10 with fail
            clear wN1 wN2 wN3
            have LMS := Lib.hid (J2).len
            have e_a := B_a.all11
            have e_n := B_n.all3
            go_wp2_with fail
            clear e_a e_n
            have CT := ptTake_B s xs t.party t.step b2 _ c2 (bodyL t) w7 F8 (fun q hq => by have := F8lt.out q hq; omega) oa J2 hsn.out (by have := hst3.out; omega)
            obtain ⟨s2, hs2⟩ : ∃ q, takeP s t.party t.step (bodyL t) = q := ⟨_, rfl⟩
            rw [hs2] at CT
            replace hs2 := Lib.hid hs2
            refine CT.mono ?_
            clear CT
            rintro e wK ⟨xa, rfl, pa2, UX⟩
            replace ob := ob.below UX
            replace om' := om'.below UX
            replace J1 := J1.below UX
            have UX2 := UX
            replace B_a := B_a.below UX2
            replace B_b := B_b.below UX2
            replace B_r := B_r.below UX2
            replace B_q := B_q.below UX2
            replace B_m := B_m.below UX2
            replace B_n := B_n.below UX2
            have S_wK := UX2.size
            have V_wK : Below w.heap.size w wK := V7.trans (UX2.mono V7.size)
            clear V7
            clear UX2
            have e_a := B_a.all11
            have f_a := B_a.frz11
            go_upto_region 11 with fail
            clear e_a f_a
            refine Exists.elim (B_a.row11 (.int .i64 s2.P) (.int .i64 s2.party) (.int .i64 s2.input) (.int .i64 s2.mask) (.int .i64 s2.delta) (.slice xa.sa xa.sn xa.sc) (.slice xa.ka xa.kn xa.kc) (.int .i64 s2.step) (.slice xa.ha xa.hn xa.hc) (.int .i64 s2.status) (.int .i64 s2.out)) (fun w8' q => ?_)
            rw [q.1]; replace B_a := q.2.1; have G := q.2.2; clear q
            have V_w8' := (V_wK).trans (G.below (V_wK).size (fun q hq => by have := (V_wK).size; simp at hq; omega))
            replace B_b := B_b.only G (by first | (simp; done) | (simp; omega))
            replace B_r := B_r.only G (by first | (simp; done) | (simp; omega))
            replace B_q := B_q.only G (by first | (simp; done) | (simp; omega))
            replace B_m := B_m.only G (by first | (simp; done) | (simp; omega))
            replace B_n := B_n.only G (by first | (simp; done) | (simp; omega))
            have sG0 := G.size
            have GX := G
            clear G
            clear V_wK
            have S_w8' : wK.heap.size + 0 ≤ w8'.heap.size := by omega
            clear sG0
            have GF := GX.more (F' := F8) (fun q hq => by simp at hq; rw [hq]; exact inF.out.1)
            replace pa2 := pa2.only GF
            replace ob := ob.only GF
            replace om' := om'.only GX (fun q hq hq' => by simp at hq'; rw [hq'] at hq; exact HB.out _ hq (by simp))
            replace J1 := J1.onlyOff GF O1.out
            clear GF GX
            have e_b := B_b.all11
            have e_m := B_m.all3
            go_wp2_with fail
            clear e_b e_m
            have CT := ptTake_B t ys s.party s.step b1 _ c1 (bodyL s) w8' F8 (fun q hq => by have := F8lt.out q hq; omega) ob J1 htn.out (by have := hst3.out; omega)
            obtain ⟨t2, ht2⟩ : ∃ q, takeP t s.party s.step (bodyL s) = q := ⟨_, rfl⟩
            rw [ht2] at CT
            replace ht2 := Lib.hid ht2
            refine CT.mono ?_
            clear CT
            rintro e wL ⟨xb, rfl, pb2, UX⟩
            replace pa2 := pa2.below UX
            replace om' := om'.below UX
            have UX2 := UX
            replace B_a := B_a.below UX2
            replace B_b := B_b.below UX2
            replace B_r := B_r.below UX2
            replace B_q := B_q.below UX2
            replace B_m := B_m.below UX2
            replace B_n := B_n.below UX2
            have S_wL := UX2.size
            have V_wL : Below w.heap.size w wL := V_w8'.trans (UX2.mono V_w8'.size)
            clear V_w8'
            clear UX2
            have e_b := B_b.all11
            have f_b := B_b.frz11
            go_wp2_with fail
            clear e_b f_b
            refine Exists.elim (B_b.row11 (.int .i64 t2.P) (.int .i64 t2.party) (.int .i64 t2.input) (.int .i64 t2.mask) (.int .i64 t2.delta) (.slice xb.sa xb.sn xb.sc) (.slice xb.ka xb.kn xb.kc) (.int .i64 t2.step) (.slice xb.ha xb.hn xb.hc) (.int .i64 t2.status) (.int .i64 t2.out)) (fun w9' q => ?_)
            rw [q.1]; replace B_b := q.2.1; have G := q.2.2; clear q
            have V_w9' := (V_wL).trans (G.below (V_wL).size (fun q hq => by have := (V_wL).size; simp at hq; omega))
            replace B_a := B_a.only G (by first | (simp; done) | (simp; omega))
            replace B_r := B_r.only G (by first | (simp; done) | (simp; omega))
            replace B_q := B_q.only G (by first | (simp; done) | (simp; omega))
            replace B_m := B_m.only G (by first | (simp; done) | (simp; omega))
            replace B_n := B_n.only G (by first | (simp; done) | (simp; omega))
            have sG0 := G.size
            have GX := G
            clear G
            clear V_wL
            have S_w9' : wL.heap.size + 0 ≤ w9'.heap.size := by omega
            clear sG0
            have GF := GX.more (F' := F8) (fun q hq => by simp at hq; rw [hq]; exact inF.out.2.1)
            replace pa2 := pa2.only GF
            replace pb2 := pb2.only GF
            replace om' := om'.only GX (fun q hq hq' => by simp at hq'; rw [hq'] at hq; exact HB.out _ hq (by simp))
            clear GF GX
            have RN2 := RNX.out
            rw [hcm.out, hcn.out] at RN2
            have e1 : takeM s cm = s2 := by rw [← hs2.out, ← hcm2.out]; unfold takeM; rw [htpa.out]
            have e2 : takeM t cn = t2 := by rw [← ht2.out, ← hcn2.out]; unfold takeM; rw [hspa.out]
            have PX : PlN s2 ∧ PlN t2 ∧ s2.P = a.P ∧ t2.P = a.P ∧ s2.party = 0 ∧ t2.party = 1 := by
              rw [← e1, ← e2, takeM_P, takeM_P, takeM_party, takeM_party]; exact ⟨(takeM_n LRS.out (by omega) cm cn).1, (takeM_n LRS.out (by omega) cm cn).2, hsP.out, htP.out, hspa.out, htpa.out⟩
            rw [e1, e2] at RN2
            have DM : D ++ [mesP 0 s, mesP 1 t] = D ++ [(s.party, s.step, bodyL s), (t.party, t.step, bodyL t)] := by unfold mesP; rw [hspa.out, htpa.out]
            rw [DM] at RN2
            have VV : Below w.heap.size w w9' := V_w9'
            have hN2 : N + 2 = 2 * (k + 1) := by have := hN.out; omega
            have KP : w.heap.size + 4 ≤ w9'.heap.size := by omega
            replace RN2 := Lib.hid RN2
            replace PX := Lib.hid PX
            clear e1 e2 DM
            go_wp2
            go_roundw
            case rel => exact ⟨⟨k + 1, s2, t2, D ++ [(s.party, s.step, bodyL s), (t.party, t.step, bodyL t)], xa, xb, a5, c5, Fm'⟩, by rw [hN2], (show PRunLF (chgP a.P at_ i kk) RP a.P w (k + 1) s2 t2 (D ++ [(s.party, s.step, bodyL s), (t.party, t.step, bodyL t)]) xa xb a5 c5 Fm' w9' from ⟨by omega, VV, B_r, B_q, KP, by have := hDl.out; simp; omega, B_a, B_b, pa2.re (fun q hq => Or.inl (hN8.out q hq)), pb2.re (fun q hq => Or.inl (hN8.out q hq)), hN2 ▸ om', PX.out.1, PX.out.2.1, PX.out.2.2.1, PX.out.2.2.2.1, PX.out.2.2.2.2.1, PX.out.2.2.2.2.2, RN2.out⟩)⟩
            case measure => simp [lenV]; have := hN.out; omega
    · have RPX : Hid (RP = (s, t, D)) := Lib.hid (by
        rcases hre with h | h
        · exact absurd (And.intro h.2.1.ta h.2.1.tb) hst
        · exact h.2)
      clear hre
      have Q_om := Lib.hid om.feet
      have CO1 := Lib.hid (fun (W : World) (h2 : PlR W xs s.shares s.keys s.heard) => ptOwn_any s xs W h2 hsn.out)
      have CO2 := Lib.hid (fun (W : World) (h2 : PlR W ys t.shares t.keys t.heard) => ptOwn_any t ys W h2 htn.out)
      by_cases hs0 : s.status = 0
      · have d1 : ((s.status == 0) : Bool) = true := by simpa using hs0
        have d2 : ((t.status == 0) : Bool) = false := by
          have : t.status ≠ 0 := fun e => hst ⟨hs0, e⟩
          simpa using this
        clear hst
        replace hs0 := Lib.hid hs0
        have e_a9 := B_a.cell 9
        have e_b9 := B_b.cell 9
        go_upto_region 12 with fail
        clear e_a9 e_b9
        replace B_a := Blk.drew B_a
        replace B_b := Blk.drew B_b
        refine wp_region_noPanic ?_
        refine wp_region_held_drew (S := (fun W => Blk W (w.heap.size) 31 #[.int .i64 s.P, .int .i64 s.party, .int .i64 s.input, .int .i64 s.mask, .int .i64 s.delta, .slice xs.sa xs.sn xs.sc, .slice xs.ka xs.kn xs.kc, .int .i64 s.step, .slice xs.ha xs.hn xs.hc, .int .i64 s.status, .int .i64 s.out] ∧ Blk W (w.heap.size + 1) 31 #[.int .i64 t.P, .int .i64 t.party, .int .i64 t.input, .int .i64 t.mask, .int .i64 t.delta, .slice ys.sa ys.sn ys.sc, .slice ys.ka ys.kn ys.kc, .int .i64 t.step, .slice ys.ha ys.hn ys.hc, .int .i64 t.status, .int .i64 t.out])) (by kernel_rfl) ?hS4 (fun hHeld => ?go4)
        case hS4 => exact ⟨B_a, B_b⟩
        refine tk (i := 0) (oi := ⟨some 62, _, _, _, _, _⟩) (v := ?v0_5) hHeld rfl ?y0_5 ?r0_5
        case y0_5 => (intro w hSw; obtain ⟨qS0, qS1⟩ := hSw; have cS0 := qS0.all11; have cS1 := qS1.all11; first | (go_simp; first | done | with_reducible rfl) | with_reducible rfl)
        (try simp only [pt_])
        refine tk (i := 2) (oi := ⟨some 64, _, _, _, _, _⟩) (v := ?v2_6) hHeld rfl ?y2_6 ?r2_6
        case y2_6 => (intro w hSw; obtain ⟨qS0, qS1⟩ := hSw; have cS0 := qS0.all11; have cS1 := qS1.all11; first | (go_simp; first | done | with_reducible rfl) | with_reducible rfl)
        (try simp only [pt_])
        refine tk (i := 4) (oi := ⟨some 66, _, _, _, _, _⟩) (v := ?v4_7) hHeld rfl ?y4_7 ?r4_7
        case y4_7 => (intro w _; first | (go_simp; first | done | with_reducible rfl) | with_reducible rfl)
        (try simp only [pt_])
        rotate_left 1
        refine wpAnyH_inv [1, 3] #[true, false, true, false, true, false, false, false] #[true, true, true, true, true, false, false, false] 5 3 (fun (a0J : Act) (lJ : Array Bool) (aJ : Act) (wJ : World) => ∃ dJ : PRunED, lJ = #[true, dJ.l1, true, dJ.l3, true, false, false, false] ∧ aJ = ((a0J.put (some 63) dJ.v1).put (some 65) dJ.v3) ∧ PRunEF wr s t dJ.l1 dJ.l3 dJ.v1 dJ.v3 dJ.ya dJ.Fa dJ.yb dJ.Fb wJ) (by kernel_rfl) (by kernel_rfl) (by kernel_rfl) (by kernel_rfl) (by kernel_rfl) ?hJ hHeld ?hi ?hs ?he
        case hJ => rintro lJ aJ wJ ⟨dJ, rfl, _⟩; exact ⟨[dJ.l1, dJ.l3], rfl, rfl⟩
        case hi => exact ⟨⟨false, false, _, _, ⟨none, 0, 0, none, 0, 0, none, 0, 0⟩, [], ⟨none, 0, 0, none, 0, 0, none, 0, 0⟩, []⟩, rfl, (Act.selfs (Act.selfs rfl 63) 65), ⟨(Below.refl _ _).drew, fun q0 => (by cases q0), fun q0 => (by cases q0), fun q0 => (by cases q0), fun q0 => (by cases q0), fun q0 => (by cases q0), fun q0 q1 => (by cases q0)⟩⟩
        case hs =>
          refine StepsI.cons (o := ⟨some 63, _, _, _, _, _⟩) rfl ?_ ?_
          · intro lJ aJ wi K hS hJ hz0 hd hK
            obtain ⟨dJ, hJ⟩ := hJ
            obtain ⟨e1, hJ⟩ := hJ
            obtain ⟨e2, hF⟩ := hJ
            subst e1
            subst e2
            cases dJ with | mk l1 l3 v1 v3 ya Fa yb Fb =>
            replace hF : PRunEF wr s t l1 l3 v1 v3 ya Fa yb Fb wi := hF
            have U := hF.U
            have k3_1 := hF.k3_1
            have r1 := hF.r1
            have r3 := hF.r3
            have o1 := hF.o1
            have o3 := hF.o3
            have D13 := hF.D13
            clear hF
            have e0 : l1 = false := hz0; subst e0
            clear hz0 hd
            have B_a := hS.1
            have B_b := hS.2
            clear hS
            (try simp only [Act.put, List.setIfInBounds_toArray, List.set_cons_zero, List.set_cons_succ])
            replace k3_1 := Lib.hid k3_1
            replace r1 := Lib.hid r1
            replace r3 := Lib.hid r3
            go_simp
            refine (CO1.out _ (oa.below U).rd).mono ?_
            rintro e wo ⟨y', F', rfl, n1, u⟩
            replace B_a := (B_a).below u
            replace B_b := (B_b).below u
            exact hK.out _ _ ⟨B_a, B_b⟩ ⟨⟨true, l3, .agg #[.int .i64 s.P, .int .i64 s.party, .int .i64 s.input, .int .i64 s.mask, .int .i64 s.delta, .slice y'.sa y'.sn y'.sc, .slice y'.ka y'.kn y'.kc, .int .i64 s.step, .slice y'.ha y'.hn y'.hc, .int .i64 s.status, .int .i64 s.out], v3, y', F', yb, Fb⟩, rfl, by kernel_rfl, (show PRunEF wr s t true l3 (.agg #[.int .i64 s.P, .int .i64 s.party, .int .i64 s.input, .int .i64 s.mask, .int .i64 s.delta, .slice y'.sa y'.sn y'.sc, .slice y'.ka y'.kn y'.kc, .int .i64 s.step, .slice y'.ha y'.hn y'.hc, .int .i64 s.status, .int .i64 s.out]) v3 y' F' yb Fb wo from ⟨((U).trans (u.mono (U).size)), (fun nd3 => (by cases k3_1.out nd3)), (fun nd1 => rfl), (fun nd3 => (by cases k3_1.out nd3)), (fun nd1 => n1.lower U.size), (fun nd3 => (by cases k3_1.out nd3)), (fun nd1 nd3 => (by cases k3_1.out nd3))⟩)⟩
          refine StepsI.cons (o := ⟨some 65, _, _, _, _, _⟩) rfl ?_ ?_
          · intro lJ aJ wi K hS hJ hz0 hd hK
            obtain ⟨dJ, hJ⟩ := hJ
            obtain ⟨e1, hJ⟩ := hJ
            obtain ⟨e2, hF⟩ := hJ
            subst e1
            subst e2
            cases dJ with | mk l1 l3 v1 v3 ya Fa yb Fb =>
            replace hF : PRunEF wr s t l1 l3 v1 v3 ya Fa yb Fb wi := hF
            have U := hF.U
            have k3_1 := hF.k3_1
            have r1 := hF.r1
            have r3 := hF.r3
            have o1 := hF.o1
            have o3 := hF.o3
            have D13 := hF.D13
            clear hF
            have e0 : l3 = false := hz0; subst e0
            have e1 : l1 = true := hd 1 (by kernel_rfl); subst e1
            clear hz0 hd
            have B_a := hS.1
            have B_b := hS.2
            clear hS
            (try simp only [Act.put, List.setIfInBounds_toArray, List.set_cons_zero, List.set_cons_succ])
            replace k3_1 := Lib.hid k3_1
            replace r1 := Lib.hid r1
            replace r3 := Lib.hid r3
            go_simp
            refine (CO2.out _ (ob.below U).rd).mono ?_
            rintro e wo ⟨y', F', rfl, n1, u⟩
            replace B_a := (B_a).below u
            replace B_b := (B_b).below u
            exact hK.out _ _ ⟨B_a, B_b⟩ ⟨⟨true, true, v1, .agg #[.int .i64 t.P, .int .i64 t.party, .int .i64 t.input, .int .i64 t.mask, .int .i64 t.delta, .slice y'.sa y'.sn y'.sc, .slice y'.ka y'.kn y'.kc, .int .i64 t.step, .slice y'.ha y'.hn y'.hc, .int .i64 t.status, .int .i64 t.out], ya, Fa, y', F'⟩, rfl, by kernel_rfl, (show PRunEF wr s t true true v1 (.agg #[.int .i64 t.P, .int .i64 t.party, .int .i64 t.input, .int .i64 t.mask, .int .i64 t.delta, .slice y'.sa y'.sn y'.sc, .slice y'.ka y'.kn y'.kc, .int .i64 t.step, .slice y'.ha y'.hn y'.hc, .int .i64 t.status, .int .i64 t.out]) ya Fa y' F' wo from ⟨((U).trans (u.mono (U).size)), (fun nd3 => rfl), (fun nd1 => (r1.out nd1)), (fun nd3 => rfl), (fun nd1 => ((o1 nd1)).below u), (fun nd3 => n1.lower U.size), (fun nd1 nd3 => fun q hq hq' => by have := (o1 rfl).feet q hq; have := n1.feet q hq'; omega)⟩)⟩
          exact StepsI.nil
        case he =>
          intro aJ wc hS hJ
          obtain ⟨dJ, hJ⟩ := hJ
          obtain ⟨hl, hJ⟩ := hJ
          obtain ⟨e2, hF⟩ := hJ
          subst e2
          cases dJ with | mk l1 l3 v1 v3 ya Fa yb Fb =>
          replace hF : PRunEF wr s t l1 l3 v1 v3 ya Fa yb Fb wc := hF
          have U := hF.U
          have k3_1 := hF.k3_1
          have r1 := hF.r1
          have r3 := hF.r3
          have o1 := hF.o1
          have o3 := hF.o3
          have D13 := hF.D13
          clear hF
          have e1 : true = l1 := congrArg (fun q : Array Bool => q.getD 1 true) hl; subst e1
          have e3 : true = l3 := congrArg (fun q : Array Bool => q.getD 3 true) hl; subst e3
          clear hl k3_1
          replace r1 := r1 rfl
          replace r3 := r3 rfl
          replace o1 := o1 rfl
          replace o3 := o3 rfl
          replace D13 := D13 rfl rfl
          have hHeld := hS
          have B_a := hS.1
          have B_b := hS.2
          clear hS
          (try simp only [Act.put, List.setIfInBounds_toArray, List.set_cons_zero, List.set_cons_succ])
          subst r1 r3
          replace B_r := B_r.below U
          replace B_q := B_q.below U
          replace om := om.below U
          have Q_o1 := Lib.hid o1.feet
          have Q_o3 := Lib.hid o3.feet
          have SU := U.size
          have G_all : Only [w.heap.size + 2, w.heap.size + 3] wc wc := Only.refl _ _
          refine wpAnyH_ready (rs := [5]) (by kernel_rfl) (by simp) ?_
          refine AllReadyH.cons (o := ⟨none, _, _, _, _, _⟩) rfl (fun K hK => ?_) ?_
          refine step_st B_r (by simp [Region.wanted]) _ _ _ (by rfl) (by rfl) (by rfl) (by kernel_rfl) (by rfl) (by simp [Value.oneCell']) ?_
          intro wS5 B_r' G
          replace B_r := B_r'; clear B_r'
          replace B_a := B_a.only G (by first | (simp; done) | (simp; omega))
          replace B_b := B_b.only G (by first | (simp; done) | (simp; omega))
          replace B_q := B_q.only G (by first | (simp; done) | (simp; omega))
          replace o1 := o1.only G (fun q hq hq' => by have := Q_o1.out q hq; simp at hq'; omega)
          replace o3 := o3.only G (fun q hq hq' => by have := Q_o3.out q hq; simp at hq'; omega)
          replace om := om.only G (fun q hq hq' => by have := Q_om.out q hq; simp at hq'; omega)
          replace G_all := G_all.trans (G.more (F' := [w.heap.size + 2, w.heap.size + 3]) (by simp))
          clear G
          refine hK.out _ _ ?_ (fun hHeld => ?_)
          · exact ⟨B_a, B_b⟩
          clear hK K
          (try simp only [pt_])
          refine wpAnyH_ready (rs := [6]) (by kernel_rfl) (by simp) ?_
          refine AllReadyH.cons (o := ⟨none, _, _, _, _, _⟩) rfl (fun K hK => ?_) ?_
          refine step_st B_q (by simp [Region.wanted]) _ _ _ (by rfl) (by rfl) (by rfl) (by kernel_rfl) (by rfl) (by simp [Value.oneCell']) ?_
          intro wS6 B_q' G
          replace B_q := B_q'; clear B_q'
          replace B_a := B_a.only G (by first | (simp; done) | (simp; omega))
          replace B_b := B_b.only G (by first | (simp; done) | (simp; omega))
          replace B_r := B_r.only G (by first | (simp; done) | (simp; omega))
          replace o1 := o1.only G (fun q hq hq' => by have := Q_o1.out q hq; simp at hq'; omega)
          replace o3 := o3.only G (fun q hq hq' => by have := Q_o3.out q hq; simp at hq'; omega)
          replace om := om.only G (fun q hq hq' => by have := Q_om.out q hq; simp at hq'; omega)
          replace G_all := G_all.trans (G.more (F' := [w.heap.size + 2, w.heap.size + 3]) (by simp))
          clear G
          refine hK.out _ _ ?_ (fun hHeld => ?_)
          · exact ⟨B_a, B_b⟩
          clear hK K
          (try simp only [pt_])
          refine tk (i := 7) (oi := ⟨some 12, _, _, _, _, _⟩) (v := ?v7_8) hHeld rfl ?y7_8 ?r7_8
          case y7_8 => (intro w _; first | (go_simp; first | done | with_reducible rfl) | with_reducible rfl)
          (try simp only [pt_])
          refine wpAnyH_done (by kernel_rfl) ?_ _
          refine NoPanic.normal ?_
          rotate_left 1
          exact AllReadyH.nil
          exact AllReadyH.nil
          have VE : Below w.heap.size w wS6 := (V_wr.out.trans (U.mono (by omega))).trans (G_all.below (by omega) (by intro q hq; simp at hq; omega))
          refine (‹∀ (a : Act) (w : World), Code.wp Tryd.prog Code.ret _ a w → _›) _ _ ?_
          refine wp_ret ?_
          have e_r := B_r.all11
          have e_q := B_q.all11
          have EE := RPX.out
          subst EE
          exact bodyPost_ret (v := .tuple #[.agg #[.int .i64 s.P, .int .i64 s.party, .int .i64 s.input, .int .i64 s.mask, .int .i64 s.delta, .slice ya.sa ya.sn ya.sc, .slice ya.ka ya.kn ya.kc, .int .i64 s.step, .slice ya.ha ya.hn ya.hc, .int .i64 s.status, .int .i64 s.out], .agg #[.int .i64 t.P, .int .i64 t.party, .int .i64 t.input, .int .i64 t.mask, .int .i64 t.delta, .slice yb.sa yb.sn yb.sc, .slice yb.ka yb.kn yb.kc, .int .i64 t.step, .slice yb.ha yb.hn yb.hc, .int .i64 t.status, .int .i64 t.out], .slice p N c]) (by simp [results, Tryd.results89, go_sem, e_r, e_q]) rfl ⟨ya, Fa, yb, Fb, p, N, c, Fm, rfl, o1.lower (by omega), o3.lower (by omega), om.lower (by omega), D13, (fun q hq hq' => by have := Q_o1.out q hq; have := Q_om.out q hq'; omega), (fun q hq hq' => by have := Q_o3.out q hq; have := Q_om.out q hq'; omega), VE⟩
      · have d1 : ((s.status == 0) : Bool) = false := by simpa using hs0
        clear hst
        replace hs0 := Lib.hid hs0
        have e_a9 := B_a.cell 9
        have e_b9 := B_b.cell 9
        go_upto_region 12 with fail
        clear e_a9 e_b9
        replace B_a := Blk.drew B_a
        replace B_b := Blk.drew B_b
        refine wp_region_noPanic ?_
        refine wp_region_held_drew (S := (fun W => Blk W (w.heap.size) 31 #[.int .i64 s.P, .int .i64 s.party, .int .i64 s.input, .int .i64 s.mask, .int .i64 s.delta, .slice xs.sa xs.sn xs.sc, .slice xs.ka xs.kn xs.kc, .int .i64 s.step, .slice xs.ha xs.hn xs.hc, .int .i64 s.status, .int .i64 s.out] ∧ Blk W (w.heap.size + 1) 31 #[.int .i64 t.P, .int .i64 t.party, .int .i64 t.input, .int .i64 t.mask, .int .i64 t.delta, .slice ys.sa ys.sn ys.sc, .slice ys.ka ys.kn ys.kc, .int .i64 t.step, .slice ys.ha ys.hn ys.hc, .int .i64 t.status, .int .i64 t.out])) (by kernel_rfl) ?hS9 (fun hHeld => ?go9)
        case hS9 => exact ⟨B_a, B_b⟩
        refine tk (i := 0) (oi := ⟨some 62, _, _, _, _, _⟩) (v := ?v0_10) hHeld rfl ?y0_10 ?r0_10
        case y0_10 => (intro w hSw; obtain ⟨qS0, qS1⟩ := hSw; have cS0 := qS0.all11; have cS1 := qS1.all11; first | (go_simp; first | done | with_reducible rfl) | with_reducible rfl)
        (try simp only [pt_])
        refine tk (i := 2) (oi := ⟨some 64, _, _, _, _, _⟩) (v := ?v2_11) hHeld rfl ?y2_11 ?r2_11
        case y2_11 => (intro w hSw; obtain ⟨qS0, qS1⟩ := hSw; have cS0 := qS0.all11; have cS1 := qS1.all11; first | (go_simp; first | done | with_reducible rfl) | with_reducible rfl)
        (try simp only [pt_])
        refine tk (i := 4) (oi := ⟨some 66, _, _, _, _, _⟩) (v := ?v4_12) hHeld rfl ?y4_12 ?r4_12
        case y4_12 => (intro w _; first | (go_simp; first | done | with_reducible rfl) | with_reducible rfl)
        (try simp only [pt_])
        rotate_left 1
        refine wpAnyH_inv [1, 3] #[true, false, true, false, true, false, false, false] #[true, true, true, true, true, false, false, false] 5 3 (fun (a0J : Act) (lJ : Array Bool) (aJ : Act) (wJ : World) => ∃ dJ : PRunED, lJ = #[true, dJ.l1, true, dJ.l3, true, false, false, false] ∧ aJ = ((a0J.put (some 63) dJ.v1).put (some 65) dJ.v3) ∧ PRunEF wr s t dJ.l1 dJ.l3 dJ.v1 dJ.v3 dJ.ya dJ.Fa dJ.yb dJ.Fb wJ) (by kernel_rfl) (by kernel_rfl) (by kernel_rfl) (by kernel_rfl) (by kernel_rfl) ?hJ hHeld ?hi ?hs ?he
        case hJ => rintro lJ aJ wJ ⟨dJ, rfl, _⟩; exact ⟨[dJ.l1, dJ.l3], rfl, rfl⟩
        case hi => exact ⟨⟨false, false, _, _, ⟨none, 0, 0, none, 0, 0, none, 0, 0⟩, [], ⟨none, 0, 0, none, 0, 0, none, 0, 0⟩, []⟩, rfl, (Act.selfs (Act.selfs rfl 63) 65), ⟨(Below.refl _ _).drew, fun q0 => (by cases q0), fun q0 => (by cases q0), fun q0 => (by cases q0), fun q0 => (by cases q0), fun q0 => (by cases q0), fun q0 q1 => (by cases q0)⟩⟩
        case hs =>
          refine StepsI.cons (o := ⟨some 63, _, _, _, _, _⟩) rfl ?_ ?_
          · intro lJ aJ wi K hS hJ hz0 hd hK
            obtain ⟨dJ, hJ⟩ := hJ
            obtain ⟨e1, hJ⟩ := hJ
            obtain ⟨e2, hF⟩ := hJ
            subst e1
            subst e2
            cases dJ with | mk l1 l3 v1 v3 ya Fa yb Fb =>
            replace hF : PRunEF wr s t l1 l3 v1 v3 ya Fa yb Fb wi := hF
            have U := hF.U
            have k3_1 := hF.k3_1
            have r1 := hF.r1
            have r3 := hF.r3
            have o1 := hF.o1
            have o3 := hF.o3
            have D13 := hF.D13
            clear hF
            have e0 : l1 = false := hz0; subst e0
            clear hz0 hd
            have B_a := hS.1
            have B_b := hS.2
            clear hS
            (try simp only [Act.put, List.setIfInBounds_toArray, List.set_cons_zero, List.set_cons_succ])
            replace k3_1 := Lib.hid k3_1
            replace r1 := Lib.hid r1
            replace r3 := Lib.hid r3
            go_simp
            refine (CO1.out _ (oa.below U).rd).mono ?_
            rintro e wo ⟨y', F', rfl, n1, u⟩
            replace B_a := (B_a).below u
            replace B_b := (B_b).below u
            exact hK.out _ _ ⟨B_a, B_b⟩ ⟨⟨true, l3, .agg #[.int .i64 s.P, .int .i64 s.party, .int .i64 s.input, .int .i64 s.mask, .int .i64 s.delta, .slice y'.sa y'.sn y'.sc, .slice y'.ka y'.kn y'.kc, .int .i64 s.step, .slice y'.ha y'.hn y'.hc, .int .i64 s.status, .int .i64 s.out], v3, y', F', yb, Fb⟩, rfl, by kernel_rfl, (show PRunEF wr s t true l3 (.agg #[.int .i64 s.P, .int .i64 s.party, .int .i64 s.input, .int .i64 s.mask, .int .i64 s.delta, .slice y'.sa y'.sn y'.sc, .slice y'.ka y'.kn y'.kc, .int .i64 s.step, .slice y'.ha y'.hn y'.hc, .int .i64 s.status, .int .i64 s.out]) v3 y' F' yb Fb wo from ⟨((U).trans (u.mono (U).size)), (fun nd3 => (by cases k3_1.out nd3)), (fun nd1 => rfl), (fun nd3 => (by cases k3_1.out nd3)), (fun nd1 => n1.lower U.size), (fun nd3 => (by cases k3_1.out nd3)), (fun nd1 nd3 => (by cases k3_1.out nd3))⟩)⟩
          refine StepsI.cons (o := ⟨some 65, _, _, _, _, _⟩) rfl ?_ ?_
          · intro lJ aJ wi K hS hJ hz0 hd hK
            obtain ⟨dJ, hJ⟩ := hJ
            obtain ⟨e1, hJ⟩ := hJ
            obtain ⟨e2, hF⟩ := hJ
            subst e1
            subst e2
            cases dJ with | mk l1 l3 v1 v3 ya Fa yb Fb =>
            replace hF : PRunEF wr s t l1 l3 v1 v3 ya Fa yb Fb wi := hF
            have U := hF.U
            have k3_1 := hF.k3_1
            have r1 := hF.r1
            have r3 := hF.r3
            have o1 := hF.o1
            have o3 := hF.o3
            have D13 := hF.D13
            clear hF
            have e0 : l3 = false := hz0; subst e0
            have e1 : l1 = true := hd 1 (by kernel_rfl); subst e1
            clear hz0 hd
            have B_a := hS.1
            have B_b := hS.2
            clear hS
            (try simp only [Act.put, List.setIfInBounds_toArray, List.set_cons_zero, List.set_cons_succ])
            replace k3_1 := Lib.hid k3_1
            replace r1 := Lib.hid r1
            replace r3 := Lib.hid r3
            go_simp
            refine (CO2.out _ (ob.below U).rd).mono ?_
            rintro e wo ⟨y', F', rfl, n1, u⟩
            replace B_a := (B_a).below u
            replace B_b := (B_b).below u
            exact hK.out _ _ ⟨B_a, B_b⟩ ⟨⟨true, true, v1, .agg #[.int .i64 t.P, .int .i64 t.party, .int .i64 t.input, .int .i64 t.mask, .int .i64 t.delta, .slice y'.sa y'.sn y'.sc, .slice y'.ka y'.kn y'.kc, .int .i64 t.step, .slice y'.ha y'.hn y'.hc, .int .i64 t.status, .int .i64 t.out], ya, Fa, y', F'⟩, rfl, by kernel_rfl, (show PRunEF wr s t true true v1 (.agg #[.int .i64 t.P, .int .i64 t.party, .int .i64 t.input, .int .i64 t.mask, .int .i64 t.delta, .slice y'.sa y'.sn y'.sc, .slice y'.ka y'.kn y'.kc, .int .i64 t.step, .slice y'.ha y'.hn y'.hc, .int .i64 t.status, .int .i64 t.out]) ya Fa y' F' wo from ⟨((U).trans (u.mono (U).size)), (fun nd3 => rfl), (fun nd1 => (r1.out nd1)), (fun nd3 => rfl), (fun nd1 => ((o1 nd1)).below u), (fun nd3 => n1.lower U.size), (fun nd1 nd3 => fun q hq hq' => by have := (o1 rfl).feet q hq; have := n1.feet q hq'; omega)⟩)⟩
          exact StepsI.nil
        case he =>
          intro aJ wc hS hJ
          obtain ⟨dJ, hJ⟩ := hJ
          obtain ⟨hl, hJ⟩ := hJ
          obtain ⟨e2, hF⟩ := hJ
          subst e2
          cases dJ with | mk l1 l3 v1 v3 ya Fa yb Fb =>
          replace hF : PRunEF wr s t l1 l3 v1 v3 ya Fa yb Fb wc := hF
          have U := hF.U
          have k3_1 := hF.k3_1
          have r1 := hF.r1
          have r3 := hF.r3
          have o1 := hF.o1
          have o3 := hF.o3
          have D13 := hF.D13
          clear hF
          have e1 : true = l1 := congrArg (fun q : Array Bool => q.getD 1 true) hl; subst e1
          have e3 : true = l3 := congrArg (fun q : Array Bool => q.getD 3 true) hl; subst e3
          clear hl k3_1
          replace r1 := r1 rfl
          replace r3 := r3 rfl
          replace o1 := o1 rfl
          replace o3 := o3 rfl
          replace D13 := D13 rfl rfl
          have hHeld := hS
          have B_a := hS.1
          have B_b := hS.2
          clear hS
          (try simp only [Act.put, List.setIfInBounds_toArray, List.set_cons_zero, List.set_cons_succ])
          subst r1 r3
          replace B_r := B_r.below U
          replace B_q := B_q.below U
          replace om := om.below U
          have Q_o1 := Lib.hid o1.feet
          have Q_o3 := Lib.hid o3.feet
          have SU := U.size
          have G_all : Only [w.heap.size + 2, w.heap.size + 3] wc wc := Only.refl _ _
          refine wpAnyH_ready (rs := [5]) (by kernel_rfl) (by simp) ?_
          refine AllReadyH.cons (o := ⟨none, _, _, _, _, _⟩) rfl (fun K hK => ?_) ?_
          refine step_st B_r (by simp [Region.wanted]) _ _ _ (by rfl) (by rfl) (by rfl) (by kernel_rfl) (by rfl) (by simp [Value.oneCell']) ?_
          intro wS5 B_r' G
          replace B_r := B_r'; clear B_r'
          replace B_a := B_a.only G (by first | (simp; done) | (simp; omega))
          replace B_b := B_b.only G (by first | (simp; done) | (simp; omega))
          replace B_q := B_q.only G (by first | (simp; done) | (simp; omega))
          replace o1 := o1.only G (fun q hq hq' => by have := Q_o1.out q hq; simp at hq'; omega)
          replace o3 := o3.only G (fun q hq hq' => by have := Q_o3.out q hq; simp at hq'; omega)
          replace om := om.only G (fun q hq hq' => by have := Q_om.out q hq; simp at hq'; omega)
          replace G_all := G_all.trans (G.more (F' := [w.heap.size + 2, w.heap.size + 3]) (by simp))
          clear G
          refine hK.out _ _ ?_ (fun hHeld => ?_)
          · exact ⟨B_a, B_b⟩
          clear hK K
          (try simp only [pt_])
          refine wpAnyH_ready (rs := [6]) (by kernel_rfl) (by simp) ?_
          refine AllReadyH.cons (o := ⟨none, _, _, _, _, _⟩) rfl (fun K hK => ?_) ?_
          refine step_st B_q (by simp [Region.wanted]) _ _ _ (by rfl) (by rfl) (by rfl) (by kernel_rfl) (by rfl) (by simp [Value.oneCell']) ?_
          intro wS6 B_q' G
          replace B_q := B_q'; clear B_q'
          replace B_a := B_a.only G (by first | (simp; done) | (simp; omega))
          replace B_b := B_b.only G (by first | (simp; done) | (simp; omega))
          replace B_r := B_r.only G (by first | (simp; done) | (simp; omega))
          replace o1 := o1.only G (fun q hq hq' => by have := Q_o1.out q hq; simp at hq'; omega)
          replace o3 := o3.only G (fun q hq hq' => by have := Q_o3.out q hq; simp at hq'; omega)
          replace om := om.only G (fun q hq hq' => by have := Q_om.out q hq; simp at hq'; omega)
          replace G_all := G_all.trans (G.more (F' := [w.heap.size + 2, w.heap.size + 3]) (by simp))
          clear G
          refine hK.out _ _ ?_ (fun hHeld => ?_)
          · exact ⟨B_a, B_b⟩
          clear hK K
          (try simp only [pt_])
          refine tk (i := 7) (oi := ⟨some 12, _, _, _, _, _⟩) (v := ?v7_13) hHeld rfl ?y7_13 ?r7_13
          case y7_13 => (intro w _; first | (go_simp; first | done | with_reducible rfl) | with_reducible rfl)
          (try simp only [pt_])
          refine wpAnyH_done (by kernel_rfl) ?_ _
          refine NoPanic.normal ?_
          rotate_left 1
          exact AllReadyH.nil
          exact AllReadyH.nil
          have VE : Below w.heap.size w wS6 := (V_wr.out.trans (U.mono (by omega))).trans (G_all.below (by omega) (by intro q hq; simp at hq; omega))
          refine (‹∀ (a : Act) (w : World), Code.wp Tryd.prog Code.ret _ a w → _›) _ _ ?_
          refine wp_ret ?_
          have e_r := B_r.all11
          have e_q := B_q.all11
          have EE := RPX.out
          subst EE
          exact bodyPost_ret (v := .tuple #[.agg #[.int .i64 s.P, .int .i64 s.party, .int .i64 s.input, .int .i64 s.mask, .int .i64 s.delta, .slice ya.sa ya.sn ya.sc, .slice ya.ka ya.kn ya.kc, .int .i64 s.step, .slice ya.ha ya.hn ya.hc, .int .i64 s.status, .int .i64 s.out], .agg #[.int .i64 t.P, .int .i64 t.party, .int .i64 t.input, .int .i64 t.mask, .int .i64 t.delta, .slice yb.sa yb.sn yb.sc, .slice yb.ka yb.kn yb.kc, .int .i64 t.step, .slice yb.ha yb.hn yb.hc, .int .i64 t.status, .int .i64 t.out], .slice p N c]) (by simp [results, Tryd.results89, go_sem, e_r, e_q]) rfl ⟨ya, Fa, yb, Fb, p, N, c, Fm, rfl, o1.lower (by omega), o3.lower (by omega), om.lower (by omega), D13, (fun q hq hq' => by have := Q_o1.out q hq; have := Q_om.out q hq'; omega), (fun q hq hq' => by have := Q_o3.out q hq; have := Q_om.out q hq'; omega), VE⟩
end Go.Proofs.YtlmdckcohoddnaaDoor
