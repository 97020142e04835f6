/- Lemmas and walks that the claim's proof rests on, part 19. -/
import Derived.Test.YtlmdckcohoddnaaDoorK18
namespace Go.Proofs.YtlmdckcohoddnaaDoor
open Go.RowKit
theorem chgP_fst (P at_ k j : Int) (i : Nat) (m : MsD) : (chgP P at_ i k j m).1 = m.1 ∧ (chgP P at_ i k j m).2.1 = m.2.1 := by unfold chgP; split <;> exact ⟨rfl, rfl⟩
theorem mdAt_app1 (D : List MsD) (m n : MsD) (N : Nat) (h : D.length = N) : mdAt (D ++ [m, n]) N = m := by subst h; simp [mdAt, List.getD]
theorem mdAt_app2 (D : List MsD) (m n : MsD) (N : Nat) (h : D.length = N) : mdAt (D ++ [m, n]) (N + 1) = n := by subst h; simp [mdAt, List.getD]
section
variable {o : Oper} {act : Act} {Q : Exit → Act → World → Prop}
theorem step_appM2 (w : World) {ops : Array Oper} {K : Act → World → Prop} {P2 : Prop} (hgd : o.guard = none)
    (s x : Operand) (ho : o.op = .call { callee := .builtin .append, args := #[s, x], argTypes := #[63, 63] })
    (b : Nat) (a : Option Addr) (n c : Nat) (D : List MsD) (F : List Nat) (om : MsO w b a n c D F) (hs : act.eval s = .slice a n c)
    (f1 s1 f2 s2 : Int) (b1 : Option Addr) (c1 : Nat) (l1 : List Int) (b2 : Option Addr) (c2 : Nat) (l2 : List Int)
    (h1 : Own w b b1 l1.length c1 l1) (h2 : Own w b b2 l2.length c2 l2) (h12 : Disj (foot b1 c1) (foot b2 c2)) (d1 : Disj (foot b1 c1) F) (d2 : Disj (foot b2 c2) F)
    (hx : act.eval x = .slice (some ⟨w.heap.size, 0, none⟩) 2 2) (hlen : n + 2 ≤ 1000000) (hbase : b ≤ w.heap.size)
    (h : ∀ a5 c5 w' F', MsO w' b a5 (n + 2) c5 (D ++ [(f1, s1, l1), (f2, s2, l2)]) F' → (∀ X : List Nat, Disj X F → Disj X (foot b1 c1) → Disj X (foot b2 c2) → (∀ k ∈ X, k < w.heap.size) → Disj X F') → Only (foot a c) w w' →
      (∀ X : List Nat, Disj X (foot a c) → (∀ k ∈ X, k < w.heap.size) → Disj X (foot a5 c5)) → K (act.put o.dst (.slice a5 (n + 2) c5)) w') :
    if Region.wanted o (yielded ops act.tmps) = true then Oper.wp Tryd.prog o act (w.alloc (.cells #[.int .i64 f1, .int .i64 s1, .slice b1 l1.length c1, .int .i64 f2, .int .i64 s2, .slice b2 l2.length c2] 44)) K Q else P2 := by
  obtain ⟨w2, hw2⟩ : ∃ q, q = w.alloc (.cells #[.int .i64 f1, .int .i64 s1, .slice b1 l1.length c1, .int .i64 f2, .int .i64 s2, .slice b2 l2.length c2] 44) := ⟨_, rfl⟩
  have u : Below w.heap.size w w2 := by rw [hw2]; exact (Below.refl _ _).alloc (Nat.le_refl _) _
  have hrow : RowC w2 (some ⟨w.heap.size, 0, none⟩) 2 2 3 (msC (f1, s1, b1, c1, l1) ++ msC (f2, s2, b2, c2, l2)) := by
    rw [hw2]; exact (OwnC.lit w 0 2 44 3 [.int .i64 f1, .int .i64 s1, .slice b1 l1.length c1, .int .i64 f2, .int .i64 s2, .slice b2 l2.length c2] (Nat.zero_le _) rfl (by simp [maxLen])).row
  have hsz := u.size
  have om2 := om.below u
  rw [← hw2]
  clear hw2
  obtain ⟨rs, q1, q2, q3⟩ := om2.app2
  refine step_appM hgd s x ho b a n c _ hs q1 _ 2 2 _ hx hrow (fun v hv => ?_) hlen (by omega) fun a5 c5 w' o5 _ g m => ?_
  · simp only [msC, List.cons_append, List.nil_append, List.mem_cons, List.not_mem_nil, or_false] at hv
    rcases hv with rfl | rfl | rfl | rfl | rfl | rfl <;> rfl
  · obtain ⟨F', t1, t2⟩ := q3 w' (f1, s1, b1, c1, l1) (f2, s2, b2, c2, l2) a5 c5 (h1.below u) (h2.below u) h12 d1 d2 o5 g m
    exact h a5 c5 w' F' t1 (fun X x1 x2 x3 hX => t2 X x1 x2 x3 (fun k hk => by have := hX k hk; omega)) ((Only.of_below u).trans (Only.of_grown g)) (fun X hX hX2 => (m.disj hX.symm (fun k hk => by have := hX2 k hk; omega)).symm)
end
theorem nwTaken_m (p at0 i k : Int) (pl : Option Addr) (cl : Nat) (sp : Option Addr) (sn sc : Nat) (D : List MsD) (j : Nat) (fr st : Int) (l : List Int) (w : World) (hM : Flat 4 w pl 1 cl [1, at0, i, k]) (hS : MsR w sp sn sc D) (hj : j < sn) (hp : 1 ≤ p) (hp2 : p ≤ 251)
    (hm : mdAt D j = (fr, st, l)) (hl : ∀ v ∈ l, 0 ≤ v ∧ v ≤ p - 1) (hs : l.length ≤ 1000) (hi : (j : Int) = at0 → 0 ≤ i ∧ i < l.length) (hk : 0 ≤ k) (hk2 : k ≤ p - 1) :
    Calls Tryd.prog 126 #[.int .i64 p, .slice pl 1 cl, .slice sp sn sc, .int .i64 j] w fun e w' => ∃ b d, e = .returned (.agg #[.int .i64 fr, .int .i64 st, .slice b (chgP p at0 i.toNat k j (fr, st, l)).2.2.length d]) ∧ Own w' w.heap.size b (chgP p at0 i.toNat k j (fr, st, l)).2.2.length d (chgP p at0 i.toNat k j (fr, st, l)).2.2 ∧ Below w.heap.size w w' := by
  have q := nwTaken_1 p at0 i k pl cl sp sn sc D j w hM hS hj hp hp2 (by rw [hm]; exact hl) (by rw [hm]; exact hs) (by rw [hm]; exact hi) hk hk2
  rw [hm, (chgP_fst _ _ _ _ _ _).1, (chgP_fst _ _ _ _ _ _).2] at q
  exact q
theorem row_msg2 (w : World) (f1 s1 f2 s2 : Int) (b1 : Option Addr) (n1 c1 : Nat) (b2 : Option Addr) (n2 c2 : Nat) : RowC (w.alloc (.cells #[.int .i64 f1, .int .i64 s1, .slice b1 n1 c1, .int .i64 f2, .int .i64 s2, .slice b2 n2 c2] 44)) (some ⟨w.heap.size, 0, none⟩) 2 2 3 [.int .i64 f1, .int .i64 s1, .slice b1 n1 c1, .int .i64 f2, .int .i64 s2, .slice b2 n2 c2] :=
  (OwnC.lit w 0 2 44 3 [.int .i64 f1, .int .i64 s1, .slice b1 n1 c1, .int .i64 f2, .int .i64 s2, .slice b2 n2 c2] (Nat.zero_le _) rfl (by simp [maxLen])).row
structure NRunLD where
  k : Nat
  s : Pl
  t : Pl
  D : List MsD
  xs : PlX
  ys : PlX
  p : Option Addr
  c : Nat
  Fm : List Nat
  pt : Option Addr
  ct : Nat
  xt : List Value
structure NRunLF (chg : Int → MsD → MsD) (RP : Pl × Pl × List MsD) (aP : Int) (w : World) (k : Nat) (s t : Pl) (D : List MsD) (xs ys : PlX) (p : Option Addr) (c : Nat) (Fm : List Nat) (pt : Option Addr) (ct : Nat) (xt : List Value) (wr : World) : Prop where
  hk : k ≤ 3
  V : Below w.heap.size w wr
  Br : Blk wr (w.heap.size + 2) 31 #[.int .i64 0, .int .i64 0, .int .i64 0, .int .i64 0, .int .i64 0, .slice none 0 0, .slice none 0 0, .int .i64 0, .slice none 0 0, .int .i64 0, .int .i64 0]
  Bq : Blk wr (w.heap.size + 3) 31 #[.int .i64 0, .int .i64 0, .int .i64 0, .int .i64 0, .int .i64 0, .slice none 0 0, .slice none 0 0, .int .i64 0, .slice none 0 0, .int .i64 0, .int .i64 0]
  sz : w.heap.size + 4 ≤ wr.heap.size
  dl : D.length = 2 * k
  Ba : Blk wr w.heap.size 31 #[.int .i64 s.P, .int .i64 s.party, .int .i64 s.input, .int .i64 s.mask, .int .i64 s.delta, .slice xs.sa xs.sn xs.sc, .slice xs.ka xs.kn xs.kc, .int .i64 s.step, .slice xs.ha xs.hn xs.hc, .int .i64 s.status, .int .i64 s.out]
  Bb : Blk wr (w.heap.size + 1) 31 #[.int .i64 t.P, .int .i64 t.party, .int .i64 t.input, .int .i64 t.mask, .int .i64 t.delta, .slice ys.sa ys.sn ys.sc, .slice ys.ka ys.kn ys.kc, .int .i64 t.step, .slice ys.ha ys.hn ys.hc, .int .i64 t.status, .int .i64 t.out]
  oa : PlB ([w.heap.size, w.heap.size + 1, w.heap.size + 2, w.heap.size + 3] ++ foot p c ++ foot pt ct) wr xs s.shares s.keys s.heard
  ob : PlB ([w.heap.size, w.heap.size + 1, w.heap.size + 2, w.heap.size + 3] ++ foot p c ++ foot pt ct) wr ys t.shares t.keys t.heard
  om : MsO wr (w.heap.size + 4) p (2 * k) c D Fm
  ot : OwnC wr (w.heap.size + 4) pt (2 * k) ct 44 3 xt
  dmt : Disj Fm (foot pt ct)
  sn : PlN s
  tn : PlN t
  sP : s.P = aP
  tP : t.P = aP
  spa : s.party = 0
  tpa : t.party = 1
  re : RunE chg RP k s t D
structure NRunBD where
  l2 : Bool
  l4 : Bool
  v2 : Value
  v4 : Value
  b1 : Option Addr
  c1 : Nat
  b2 : Option Addr
  c2 : Nat
structure NRunBF (W0 : World) (s : Pl) (t : Pl) (l2 : Bool) (l4 : Bool) (v2 : Value) (v4 : Value) (b1 : Option Addr) (c1 : Nat) (b2 : Option Addr) (c2 : Nat) (wJ : World) : Prop where
  U : Below W0.heap.size W0 wJ
  k4_2 : l4 = true → l2 = true
  r2 : l2 = true → v2 = .agg #[.int .i64 s.party, .int .i64 s.step, .slice b1 (bodyL s).length c1]
  r4 : l4 = true → v4 = .agg #[.int .i64 t.party, .int .i64 t.step, .slice b2 (bodyL t).length c2]
  m1 : l2 = true → Own wJ W0.heap.size b1 (bodyL s).length c1 (bodyL s)
  m2 : l4 = true → Own wJ W0.heap.size b2 (bodyL t).length c2 (bodyL t)
  D12 : l2 = true → l4 = true → Disj (foot b1 c1) (foot b2 c2)
structure NRunED where
  l1 : Bool
  l3 : Bool
  v1 : Value
  v3 : Value
  ya : PlX
  Fa : List Nat
  yb : PlX
  Fb : List Nat
structure NRunEF (W0 : World) (s : Pl) (t : Pl) (l1 : Bool) (l3 : Bool) (v1 : Value) (v3 : Value) (ya : PlX) (Fa : List Nat) (yb : PlX) (Fb : List Nat) (wJ : World) : Prop where
  U : Below W0.heap.size W0 wJ
  k3_1 : l3 = true → l1 = true
  r1 : l1 = true → v1 = .agg #[.int .i64 s.P, .int .i64 s.party, .int .i64 s.input, .int .i64 s.mask, .int .i64 s.delta, .slice ya.sa ya.sn ya.sc, .slice ya.ka ya.kn ya.kc, .int .i64 s.step, .slice ya.ha ya.hn ya.hc, .int .i64 s.status, .int .i64 s.out]
  r3 : l3 = true → v3 = .agg #[.int .i64 t.P, .int .i64 t.party, .int .i64 t.input, .int .i64 t.mask, .int .i64 t.delta, .slice yb.sa yb.sn yb.sc, .slice yb.ka yb.kn yb.kc, .int .i64 t.step, .slice yb.ha yb.hn yb.hc, .int .i64 t.status, .int .i64 t.out]
  o1 : l1 = true → PlO wJ W0.heap.size ya s.shares s.keys s.heard Fa
  o3 : l3 = true → PlO wJ W0.heap.size yb t.shares t.keys t.heard Fb
  D13 : l1 = true → l3 = true → Disj Fa Fb
set_option maxHeartbeats 16000000 in
set_option maxRecDepth 100000 in
theorem nwRun_any (a b : Pl) (x z : PlX) (at_ i kk : Int) (g og cl : Nat) (w : World) (h : PlR w x a.shares a.keys a.heard) (h' : PlR w z b.shares b.keys b.heard) (hR : RunS 0 a b) (hP : a.P = b.P) (hpa : a.party = 0) (hpb : b.party = 1)
    (hat : 0 ≤ at_ ∧ at_ ≤ 5 ∧ 0 ≤ i ∧ i < (blen (at_ / 2).toNat : Int) ∧ 0 ≤ kk ∧ kk ≤ a.P - 1) (hM : Flat 4 w (some ⟨g, og, none⟩) 1 cl [1, at_, i, kk]) :
    Calls Tryd.prog 97 #[.agg #[.int .i64 a.P, .int .i64 a.party, .int .i64 a.input, .int .i64 a.mask, .int .i64 a.delta, .slice x.sa x.sn x.sc, .slice x.ka x.kn x.kc, .int .i64 a.step, .slice x.ha x.hn x.hc, .int .i64 a.status, .int .i64 a.out], .agg #[.int .i64 b.P, .int .i64 b.party, .int .i64 b.input, .int .i64 b.mask, .int .i64 b.delta, .slice z.sa z.sn z.sc, .slice z.ka z.kn z.kc, .int .i64 b.step, .slice z.ha z.hn z.hc, .int .i64 b.status, .int .i64 b.out], .slice (some ⟨g, og, none⟩) 1 cl] w fun e w' => ∃ (y y2 : PlX) (p : Option Addr) (n c : Nat), e = .returned (.tuple #[.agg #[.int .i64 (runP (chgP a.P at_ i.toNat kk) 3 a b []).1.P, .int .i64 (runP (chgP a.P at_ i.toNat kk) 3 a b []).1.party, .int .i64 (runP (chgP a.P at_ i.toNat kk) 3 a b []).1.input, .int .i64 (runP (chgP a.P at_ i.toNat kk) 3 a b []).1.mask, .int .i64 (runP (chgP a.P at_ i.toNat kk) 3 a b []).1.delta, .slice y.sa y.sn y.sc, .slice y.ka y.kn y.kc, .int .i64 (runP (chgP a.P at_ i.toNat kk) 3 a b []).1.step, .slice y.ha y.hn y.hc, .int .i64 (runP (chgP a.P at_ i.toNat kk) 3 a b []).1.status, .int .i64 (runP (chgP a.P at_ i.toNat kk) 3 a b []).1.out], .agg #[.int .i64 (runP (chgP a.P at_ i.toNat kk) 3 a b []).2.1.P, .int .i64 (runP (chgP a.P at_ i.toNat kk) 3 a b []).2.1.party, .int .i64 (runP (chgP a.P at_ i.toNat kk) 3 a b []).2.1.input, .int .i64 (runP (chgP a.P at_ i.toNat kk) 3 a b []).2.1.mask, .int .i64 (runP (chgP a.P at_ i.toNat kk) 3 a b []).2.1.delta, .slice y2.sa y2.sn y2.sc, .slice y2.ka y2.kn y2.kc, .int .i64 (runP (chgP a.P at_ i.toNat kk) 3 a b []).2.1.step, .slice y2.ha y2.hn y2.hc, .int .i64 (runP (chgP a.P at_ i.toNat kk) 3 a b []).2.1.status, .int .i64 (runP (chgP a.P at_ i.toNat kk) 3 a b []).2.1.out], .slice p n c]) ∧ Below w.heap.size w w' := by
  have LR := Lib.hid hR
  have LP := Lib.hid hP
  have LA := Lib.hid hat
  have LH := Lib.hid h
  have LH' := Lib.hid h'
  have LM := Lib.hid hM
  have LPA := Lib.hid (And.intro hpa hpb)
  obtain ⟨RP, hRP⟩ : ∃ r, runP (chgP a.P at_ i.toNat kk) 3 a b [] = r := ⟨_, rfl⟩
  rw [hRP]
  replace hRP := Lib.hid hRP
  clear h h' hR hP hat hpa hpb hM
  go_enter Tryd.func97, Tryd.ntmps97
  go_upto_region 1 with fail
  refine Exists.elim (Blk.new_ w (b := w.heap.size) rfl 31 #[.int .i64 a.P, .int .i64 a.party, .int .i64 a.input, .int .i64 a.mask, .int .i64 a.delta, .slice x.sa x.sn x.sc, .slice x.ka x.kn x.kc, .int .i64 a.step, .slice x.ha x.hn x.hc, .int .i64 a.status, .int .i64 a.out]) (fun w1_a0' q => ?_)
  rw [q.1]; have B_a := q.2.1; have s_w1_a0' := q.2.2.1; have u_w1_a0' := q.2.2.2; clear q
  refine Exists.elim (Blk.new_ w1_a0' (b := w.heap.size + 1) s_w1_a0' 31 #[.int .i64 b.P, .int .i64 b.party, .int .i64 b.input, .int .i64 b.mask, .int .i64 b.delta, .slice z.sa z.sn z.sc, .slice z.ka z.kn z.kc, .int .i64 b.step, .slice z.ha z.hn z.hc, .int .i64 b.status, .int .i64 b.out]) (fun w1_a1' q => ?_)
  rw [q.1]; have B_b := q.2.1; have s_w1_a1' := q.2.2.1; have u_w1_a1' := q.2.2.2; clear q
  refine Exists.elim (Blk.new_ w1_a1' (b := w.heap.size + 2) s_w1_a1' 31 #[.int .i64 0, .int .i64 0, .int .i64 0, .int .i64 0, .int .i64 0, .slice none 0 0, .slice none 0 0, .int .i64 0, .slice none 0 0, .int .i64 0, .int .i64 0]) (fun w1_a2' q => ?_)
  rw [q.1]; have B_r := q.2.1; have s_w1_a2' := q.2.2.1; have u_w1_a2' := q.2.2.2; clear q
  refine Exists.elim (Blk.new_ w1_a2' (b := w.heap.size + 3) s_w1_a2' 31 #[.int .i64 0, .int .i64 0, .int .i64 0, .int .i64 0, .int .i64 0, .slice none 0 0, .slice none 0 0, .int .i64 0, .slice none 0 0, .int .i64 0, .int .i64 0]) (fun w1' q => ?_)
  rw [q.1]; have B_q := q.2.1; have s_w1' := q.2.2.1; have u_w1' := q.2.2.2; clear q
  replace B_a := (((B_a.below u_w1_a1').below u_w1_a2').below u_w1')
  replace B_b := ((B_b.below u_w1_a2').below u_w1')
  replace B_r := (B_r.below u_w1')
  have U := (u_w1_a0'.trans ((u_w1_a1'.trans ((u_w1_a2'.trans (u_w1'.mono u_w1_a2'.size)).mono u_w1_a1'.size)).mono u_w1_a0'.size))
  have S_w1' : w.heap.size + 4 ≤ w1'.heap.size := Nat.le_of_eq s_w1'.symm
  have V_w1' := (Below.refl w.heap.size w).trans (U.mono ((Below.refl w.heap.size w)).size)
  clear u_w1_a0' u_w1_a1' u_w1_a2' u_w1' s_w1_a0' s_w1_a1' s_w1_a2' s_w1' U
  try rw [show w.heap.size + 1 + 1 + 1 = w.heap.size + 3 from rfl]
  try rw [show w.heap.size + 1 + 1 = w.heap.size + 2 from rfl]
  go_wp2_with fail
  have SZ : w.heap.size + 4 ≤ w1'.heap.size := by omega
  have oa : PlB ([w.heap.size, w.heap.size + 1, w.heap.size + 2, w.heap.size + 3] ++ foot none 0 ++ foot none 0) w1' x a.shares a.keys a.heard := by rw [foot_zero]; exact (PlB.of LH.out (fun q hq => by simp at hq; omega)).below V_w1'
  have ob : PlB ([w.heap.size, w.heap.size + 1, w.heap.size + 2, w.heap.size + 3] ++ foot none 0 ++ foot none 0) w1' z b.shares b.keys b.heard := by rw [foot_zero]; exact (PlB.of LH'.out (fun q hq => by simp at hq; omega)).below V_w1'
  have om := MsO.nil w1' (w.heap.size + 4) none
  have ot := OwnC.nil0 w1' (w.heap.size + 4) 44 3 none
  have LV := Lib.hid V_w1'
  go_loopw [9, 10] (fun u v wr => ∃ d : NRunLD, u = .slice d.p (2 * d.k) d.c ∧ v = .slice d.pt (2 * d.k) d.ct ∧ NRunLF (chgP a.P at_ i.toNat kk) RP a.P w d.k d.s d.t d.D d.xs d.ys d.p d.c d.Fm d.pt d.ct d.xt wr) (fun u _ _ => 6 - lenV u)
  case atStart => exact ⟨⟨0, a, b, [], x, z, none, 0, [], none, 0, []⟩, rfl, rfl, (show NRunLF (chgP a.P at_ i.toNat kk) RP a.P w 0 a b [] x z none 0 [] none 0 [] w1' from ⟨by omega, LV.out, B_r, B_q, SZ, rfl, B_a, B_b, oa, ob, om, ot, Disj.nil_l _, LR.out.an, LR.out.bn, rfl, LP.out.symm, LPA.out.1, LPA.out.2, Or.inl ⟨by omega, LR.out, hRP.out.symm⟩⟩)⟩
  case round =>
    obtain ⟨d, hr1, hr2, hL⟩ := hrel
    cases d with | mk k s t D xs ys p c Fm pt ct xt =>
    subst hr1 hr2
    replace hL : NRunLF (chgP a.P at_ i.toNat kk) RP a.P w k s t D xs ys p c Fm pt ct xt wr := hL
    have hk := hL.hk
    have V_wr := hL.V
    have B_r := hL.Br
    have B_q := hL.Bq
    have SZr := hL.sz
    have hDl := hL.dl
    have B_a := hL.Ba
    have B_b := hL.Bb
    have oa := hL.oa
    have ob := hL.ob
    have om := hL.om
    have ot := hL.ot
    have dmt := hL.dmt
    have hsn := hL.sn
    have htn := hL.tn
    have hsP := hL.sP
    have htP := hL.tP
    have hspa := hL.spa
    have htpa := hL.tpa
    have hre := hL.re
    clear hL
    obtain ⟨N, hN⟩ : ∃ N, N = 2 * k := ⟨_, rfl⟩
    rw [← hN] at om hDl ot
    rw [← hN]
    replace hN := Lib.hid hN
    replace hDl := Lib.hid hDl
    replace hsP := Lib.hid hsP
    replace htP := Lib.hid htP
    replace hspa := Lib.hid hspa
    replace htpa := Lib.hid htpa
    replace hsn := Lib.hid hsn
    replace htn := Lib.hid htn
    replace V_wr := Lib.hid V_wr
    by_cases hst : s.status = 0 ∧ t.status = 0
    · have hre2 : k < 3 ∧ RunS k s t ∧ RP = runP (chgP a.P at_ i.toNat kk) (3 - k) s t D := by
        rcases hre with h | h
        · exact h
        · exact absurd hst (fun hh => h.1.elim (fun e => e hh.1) (fun e => e hh.2))
      clear hre
      have hlt := hre2.1
      have LRS := Lib.hid hre2.2.1
      have HRE := Lib.hid hre2.2.2
      clear hre2
      have d1 : ((s.status == 0) : Bool) = true := by simpa using hst.1
      have d2 : ((t.status == 0) : Bool) = true := by simpa using hst.2
      clear hst
      have CBa := Lib.hid (fun (W : World) (h2 : PlR W xs s.shares s.keys s.heard) => ptMessage_any s xs W h2 LRS.out.an (by have := LRS.out.sa; omega))
      have CBb := Lib.hid (fun (W : World) (h2 : PlR W ys t.shares t.keys t.heard) => ptMessage_any t ys W h2 LRS.out.bn (by have := LRS.out.sb; omega))
      have Q_om := Lib.hid om.feet
      have Q_ot := Lib.hid ot.feet
      have NM := Lib.hid om.foot
      have e_a_9 := B_a.a11_9
      have e_b_9 := B_b.a11_9
      go_upto_region 4 with fail
      clear e_a_9 e_b_9
      replace B_a := Blk.drew B_a
      replace B_b := Blk.drew B_b
      refine wp_region_noPanic ?_
      refine wp_region_held_drew (S := (fun W => Blk W (w.heap.size) 31 #[.int .i64 s.P, .int .i64 s.party, .int .i64 s.input, .int .i64 s.mask, .int .i64 s.delta, .slice xs.sa xs.sn xs.sc, .slice xs.ka xs.kn xs.kc, .int .i64 s.step, .slice xs.ha xs.hn xs.hc, .int .i64 s.status, .int .i64 s.out] ∧ Blk W (w.heap.size + 1) 31 #[.int .i64 t.P, .int .i64 t.party, .int .i64 t.input, .int .i64 t.mask, .int .i64 t.delta, .slice ys.sa ys.sn ys.sc, .slice ys.ka ys.kn ys.kc, .int .i64 t.step, .slice ys.ha ys.hn ys.hc, .int .i64 t.status, .int .i64 t.out])) (by kernel_rfl) ?hS1 (fun hHeld => ?go1)
      case hS1 => exact ⟨B_a, B_b⟩
      refine tk (i := 0) (oi := ⟨some 24, _, _, _, _, _⟩) (v := ?v0_2) hHeld rfl ?y0_2 ?r0_2
      case y0_2 => (intro w _; first | (go_simp; first | done | with_reducible rfl) | with_reducible rfl)
      (try simp only [pt_])
      refine tk (i := 1) (oi := ⟨some 25, _, _, _, _, _⟩) (v := ?v1_3) hHeld rfl ?y1_3 ?r1_3
      case y1_3 => (intro w hSw; obtain ⟨qS0, qS1⟩ := hSw; have cS0 := qS0.all11; have cS1 := qS1.all11; first | (go_simp; first | done | with_reducible rfl) | with_reducible rfl)
      (try simp only [pt_])
      refine tk (i := 3) (oi := ⟨some 27, _, _, _, _, _⟩) (v := ?v3_4) hHeld rfl ?y3_4 ?r3_4
      case y3_4 => (intro w hSw; obtain ⟨qS0, qS1⟩ := hSw; have cS0 := qS0.all11; have cS1 := qS1.all11; first | (go_simp; first | done | with_reducible rfl) | with_reducible rfl)
      (try simp only [pt_])
      rotate_left 1
      refine wpAnyH_inv [2, 4] #[true, true, false, true, false, false, false, false] #[true, true, true, true, true, false, false, false] 5 3 (fun (a0J : Act) (lJ : Array Bool) (aJ : Act) (wJ : World) => ∃ dJ : NRunBD, lJ = #[true, true, dJ.l2, true, dJ.l4, false, false, false] ∧ aJ = ((a0J.put (some 26) dJ.v2).put (some 28) dJ.v4) ∧ NRunBF wr s t dJ.l2 dJ.l4 dJ.v2 dJ.v4 dJ.b1 dJ.c1 dJ.b2 dJ.c2 wJ) (by kernel_rfl) (by kernel_rfl) (by kernel_rfl) (by kernel_rfl) (by kernel_rfl) ?hJ hHeld ?hi ?hs ?he
      case hJ => rintro lJ aJ wJ ⟨dJ, rfl, _⟩; exact ⟨[dJ.l2, dJ.l4], rfl, rfl⟩
      case hi => exact ⟨⟨false, false, _, _, none, 0, none, 0⟩, rfl, (Act.selfs (Act.selfs rfl 26) 28), ⟨(Below.refl _ _).drew, fun q0 => (by cases q0), fun q0 => (by cases q0), fun q0 => (by cases q0), fun q0 => (by cases q0), fun q0 => (by cases q0), fun q0 q1 => (by cases q0)⟩⟩
      case hs =>
        refine StepsI.cons (o := ⟨some 26, _, _, _, _, _⟩) rfl ?_ ?_
        · intro lJ aJ wi K hS hJ hz0 hd hK
          obtain ⟨dJ, hJ⟩ := hJ
          obtain ⟨e1, hJ⟩ := hJ
          obtain ⟨e2, hF⟩ := hJ
          subst e1
          subst e2
          cases dJ with | mk l2 l4 v2 v4 b1 c1 b2 c2 =>
          replace hF : NRunBF wr s t l2 l4 v2 v4 b1 c1 b2 c2 wi := hF
          have U := hF.U
          have k4_2 := hF.k4_2
          have r2 := hF.r2
          have r4 := hF.r4
          have m1 := hF.m1
          have m2 := hF.m2
          have D12 := hF.D12
          clear hF
          have e0 : l2 = false := hz0; subst e0
          clear hz0 hd
          have B_a := hS.1
          have B_b := hS.2
          clear hS
          (try simp only [Act.put, List.setIfInBounds_toArray, List.set_cons_zero, List.set_cons_succ])
          replace k4_2 := Lib.hid k4_2
          replace r2 := Lib.hid r2
          replace r4 := Lib.hid r4
          go_simp
          refine (CBa.out _ (oa.below U).rd).mono ?_
          rintro e wo ⟨b1', c1', rfl, n1, u⟩
          replace B_a := (B_a).below u
          replace B_b := (B_b).below u
          exact hK.out _ _ ⟨B_a, B_b⟩ ⟨⟨true, l4, .agg #[.int .i64 s.party, .int .i64 s.step, .slice b1' (bodyL s).length c1'], v4, b1', c1', b2, c2⟩, rfl, by kernel_rfl, (show NRunBF wr s t true l4 (.agg #[.int .i64 s.party, .int .i64 s.step, .slice b1' (bodyL s).length c1']) v4 b1' c1' b2 c2 wo from ⟨((U).trans (u.mono (U).size)), (fun nd4 => (by cases k4_2.out nd4)), (fun nd2 => rfl), (fun nd4 => (by cases k4_2.out nd4)), (fun nd2 => n1.lower U.size), (fun nd4 => (by cases k4_2.out nd4)), (fun nd2 nd4 => (by cases k4_2.out nd4))⟩)⟩
        refine StepsI.cons (o := ⟨some 28, _, _, _, _, _⟩) rfl ?_ ?_
        · intro lJ aJ wi K hS hJ hz0 hd hK
          obtain ⟨dJ, hJ⟩ := hJ
          obtain ⟨e1, hJ⟩ := hJ
          obtain ⟨e2, hF⟩ := hJ
          subst e1
          subst e2
          cases dJ with | mk l2 l4 v2 v4 b1 c1 b2 c2 =>
          replace hF : NRunBF wr s t l2 l4 v2 v4 b1 c1 b2 c2 wi := hF
          have U := hF.U
          have k4_2 := hF.k4_2
          have r2 := hF.r2
          have r4 := hF.r4
          have m1 := hF.m1
          have m2 := hF.m2
          have D12 := hF.D12
          clear hF
          have e0 : l4 = false := hz0; subst e0
          have e2 : l2 = true := hd 2 (by kernel_rfl); subst e2
          clear hz0 hd
          have B_a := hS.1
          have B_b := hS.2
          clear hS
          (try simp only [Act.put, List.setIfInBounds_toArray, List.set_cons_zero, List.set_cons_succ])
          replace k4_2 := Lib.hid k4_2
          replace r2 := Lib.hid r2
          replace r4 := Lib.hid r4
          go_simp
          refine (CBb.out _ (ob.below U).rd).mono ?_
          rintro e wo ⟨b2', c2', rfl, n1, u⟩
          replace B_a := (B_a).below u
          replace B_b := (B_b).below u
          exact hK.out _ _ ⟨B_a, B_b⟩ ⟨⟨true, true, v2, .agg #[.int .i64 t.party, .int .i64 t.step, .slice b2' (bodyL t).length c2'], b1, c1, b2', c2'⟩, rfl, by kernel_rfl, (show NRunBF wr s t true true v2 (.agg #[.int .i64 t.party, .int .i64 t.step, .slice b2' (bodyL t).length c2']) b1 c1 b2' c2' wo from ⟨((U).trans (u.mono (U).size)), (fun nd4 => rfl), (fun nd2 => (r2.out nd2)), (fun nd4 => rfl), (fun nd2 => ((m1 nd2)).below u), (fun nd4 => n1.lower U.size), (fun nd2 nd4 => fun q hq hq' => by have := (m1 rfl).feet q hq; have := n1.feet q hq'; omega)⟩)⟩
        exact StepsI.nil
      case he =>
        intro aJ wc hS hJ
        obtain ⟨dJ, hJ⟩ := hJ
        obtain ⟨hl, hJ⟩ := hJ
        obtain ⟨e2, hF⟩ := hJ
        subst e2
        cases dJ with | mk l2 l4 v2 v4 b1 c1 b2 c2 =>
        replace hF : NRunBF wr s t l2 l4 v2 v4 b1 c1 b2 c2 wc := hF
        have U := hF.U
        have k4_2 := hF.k4_2
        have r2 := hF.r2
        have r4 := hF.r4
        have m1 := hF.m1
        have m2 := hF.m2
        have D12 := hF.D12
        clear hF
        have e2 : true = l2 := congrArg (fun q : Array Bool => q.getD 2 true) hl; subst e2
        have e4 : true = l4 := congrArg (fun q : Array Bool => q.getD 4 true) hl; subst e4
        clear hl k4_2
        replace r2 := r2 rfl
        replace r4 := r4 rfl
        replace m1 := m1 rfl
        replace m2 := m2 rfl
        replace D12 := D12 rfl rfl
        have hHeld := hS
        have B_a := hS.1
        have B_b := hS.2
        clear hS
        (try simp only [Act.put, List.setIfInBounds_toArray, List.set_cons_zero, List.set_cons_succ])
        subst r2 r4
        have SU := U.size
        have Q_m1 := Lib.hid m1.feet
        have Q_m2 := Lib.hid m2.feet
        have omc := om.below U
        have hf : ∀ q ∈ foot p c, w.heap.size + 4 ≤ q ∧ q < wr.heap.size := fun q hq => Q_om.out q (NM.out q hq)
        refine wpAnyH_ready (rs := [5]) (by kernel_rfl) (by simp) ?_
        refine AllReadyH.cons (o := ⟨some 29, _, _, _, _, _⟩) rfl (fun K hK => ?_) ?_
        go_simp
        refine hK.out _ _ ?_ (fun hHeld => ?_)
        · exact ⟨B_a.alloc _, B_b.alloc _⟩
        clear hK K
        (try simp only [pt_])
        refine wpAnyH_ready (rs := [6]) (by kernel_rfl) (by simp) ?_
        refine AllReadyH.cons (o := ⟨some 30, _, _, _, _, _⟩) rfl (fun K hK => ?_) ?_
        refine step_appM2 wc (by rfl) _ _ (by rfl) (w.heap.size + 4) p N c D Fm omc (by rfl) s.party s.step t.party t.step b1 c1 (bodyL s) b2 c2 (bodyL t) (m1.lower (by omega)) (m2.lower (by omega)) D12 (fun q hq hq' => by have := Q_m1.out q hq; have := Q_om.out q hq'; omega) (fun q hq hq' => by have := Q_m2.out q hq; have := Q_om.out q hq'; omega) (by rfl) (by have := hN.out; omega) (by omega) ?_
        intro a5 c5 w7 Fm' om' hX7 o7 hP7
        refine hK.out _ _ ?_ (fun hHeld => ?_)
        · exact ⟨B_a.only o7 (fun hq => by have := hf _ hq; omega), B_b.only o7 (fun hq => by have := hf _ hq; omega)⟩
        clear hK K
        (try simp only [pt_])
        refine tk (i := 7) (oi := ⟨some 9, _, _, _, _, _⟩) (v := ?v7_5) hHeld rfl ?y7_5 ?r7_5
        case y7_5 => (intro w _; first | (go_simp; first | done | with_reducible rfl) | with_reducible rfl)
        (try simp only [pt_])
        refine wpAnyH_done (by kernel_rfl) ?_ _
        refine NoPanic.normal ?_
        rotate_left 1
        exact AllReadyH.nil
        exact AllReadyH.nil
        have SZ7 := o7.size
        have s7 : wr.heap.size ≤ w7.heap.size := by omega
        obtain ⟨FX, hFX⟩ : ∃ F, F = [w.heap.size, w.heap.size + 1, w.heap.size + 2, w.heap.size + 3] ++ foot p c ++ foot pt ct := ⟨_, rfl⟩
        have iFX : Hid (w.heap.size ∈ FX ∧ w.heap.size + 1 ∈ FX) := Lib.hid (by rw [hFX]; simp)
        have iFp : ∀ q ∈ foot p c, q ∈ FX := fun q hq => by rw [hFX]; simp [hq]
        have iFt : Hid (∀ q ∈ foot pt ct, q ∈ FX) := Lib.hid (fun q hq => by rw [hFX]; simp [hq])
        have FXlt : Hid (∀ q ∈ FX, w.heap.size ≤ q ∧ q < wr.heap.size) := Lib.hid (fun q hq => by
          rw [hFX] at hq
          simp only [List.mem_append, List.mem_cons, List.not_mem_nil, or_false] at hq
          rcases hq with (h | h) | h
          · omega
          · have := hf q h; omega
          · have := Q_ot.out q h; omega)
        have V7 : Only FX wr w7 := (Only.of_below U).trans (o7.more iFp)
        replace B_a := B_a.only o7 (fun hq => by have := hf _ hq; omega)
        replace B_b := B_b.only o7 (fun hq => by have := hf _ hq; omega)
        replace B_r := (B_r.below U).only o7 (fun hq => by have := hf _ hq; omega)
        replace B_q := (B_q.below U).only o7 (fun hq => by have := hf _ hq; omega)
        have H5 : Hid (∀ q ∈ foot a5 c5, q < w7.heap.size ∧ (q ∈ foot p c ∨ wr.heap.size ≤ q)) := Lib.hid (fun q hq => ⟨(om'.feet q (om'.foot q hq)).2, by
          by_cases h1 : q ∈ foot p c
          · exact Or.inl h1
          · by_cases h2 : q < wc.heap.size
            · exact absurd hq (hP7 [q] (by intro y hy; simp at hy; subst hy; exact h1) (by simpa using h2) q (by simp))
            · right; omega⟩)
        have otc := OwnC.only (ot.below U) o7 (fun q hq hq' => dmt q (NM.out q hq') hq)
        have HD5 : Hid (∀ q ∈ foot pt ct, q ∉ Fm') := Lib.hid (fun q hq => hX7 (foot pt ct) (fun q hq hq' => dmt q hq' hq) (fun q hq hq' => by have := Q_ot.out q hq; have := Q_m1.out q hq'; omega) (fun q hq hq' => by have := Q_ot.out q hq; have := Q_m2.out q hq'; omega) (fun q hq => by have := Q_ot.out q hq; omega) q hq)
        have HB5 : Hid (∀ q ∈ Fm', q ≠ w.heap.size ∧ q ≠ w.heap.size + 1) := Lib.hid (fun q hq => by have := om'.feet q hq; omega)
        have hbr : w.heap.size + 4 ≤ wr.heap.size := SZr
        have Q_om5 := Lib.hid om'.feet
        clear hX7 hP7 o7 U SU SZ7 D12 m1 m2 omc hf iFp Q_m1 Q_m2
        replace hFX := Lib.hid hFX
        have LMx : Hid (∀ W : World, Only FX wr W → Flat 4 W (some ⟨g, og, none⟩) 1 cl [1, at_, i, kk]) := Lib.hid (fun W hW => Flat.below LM.out (V_wr.out.trans (hW.below (by omega) (fun q hq => (FXlt.out q hq).1))))
        have KK := LA.out
        have hst3 : Hid (s.step = k ∧ t.step = k) := Lib.hid ⟨LRS.out.sa, LRS.out.sb⟩
        have blS := Lib.hid (bodyL_len s hsn.out (by have := hst3.out; omega))
        have blT := Lib.hid (bodyL_len t htn.out (by have := hst3.out; omega))
        have CT1 := Lib.hid (fun (W : World) (hD : MsR W a5 (N + 2) c5 (D ++ [(s.party, s.step, bodyL s), (t.party, t.step, bodyL t)])) (hf : Flat 4 W (some ⟨g, og, none⟩) 1 cl [1, at_, i, kk]) =>
          nwTaken_m s.P at_ i kk (some ⟨g, og, none⟩) cl a5 (N + 2) c5 _ N s.party s.step (bodyL s) W hf hD (by omega) (by have := hsn.out.p1; omega) hsn.out.p2 (mdAt_app1 D _ _ N hDl.out) (fun v hv => bodyL_rng s hsn.out v hv) (by rw [blS.out]; have := (blen_bd s.step.toNat).2; omega)
            (fun e => by rw [blS.out, hst3.out.1, show ((k : Int)).toNat = (at_ / 2).toNat by have := hN.out; omega]; exact ⟨KK.2.2.1, KK.2.2.2.1⟩) KK.2.2.2.2.1 (by rw [hsP.out]; exact KK.2.2.2.2.2))
        have CT2 := Lib.hid (fun (W : World) (hD : MsR W a5 (N + 2) c5 (D ++ [(s.party, s.step, bodyL s), (t.party, t.step, bodyL t)])) (hf : Flat 4 W (some ⟨g, og, none⟩) 1 cl [1, at_, i, kk]) =>
          nwTaken_m s.P at_ i kk (some ⟨g, og, none⟩) cl a5 (N + 2) c5 _ (N + 1) t.party t.step (bodyL t) W hf hD (by omega) (by have := hsn.out.p1; omega) hsn.out.p2 (mdAt_app2 D _ _ N hDl.out) (fun v hv => by have := bodyL_rng t htn.out v hv; rw [htP.out] at this; rw [hsP.out]; exact this) (by rw [blT.out]; have := (blen_bd t.step.toNat).2; omega)
            (fun e => by rw [blT.out, hst3.out.2, show ((k : Int)).toNat = (at_ / 2).toNat by have := hN.out; omega]; exact ⟨KK.2.2.1, KK.2.2.2.1⟩) KK.2.2.2.2.1 (by rw [hsP.out]; exact KK.2.2.2.2.2))
        obtain ⟨ln, hln⟩ : ∃ q, (chgP s.P at_ i.toNat kk (N : Nat) (s.party, s.step, bodyL s)).2.2 = q := ⟨_, rfl⟩
        obtain ⟨lm, hlm⟩ : ∃ q, (chgP s.P at_ i.toNat kk ((N + 1 : Nat) : Int) (t.party, t.step, bodyL t)).2.2 = q := ⟨_, rfl⟩
        rw [hln] at CT1
        rw [hlm] at CT2
        have eN1 : ((N + 1 : Nat) : Int) = (N : Int) + 1 := by omega
        simp only [eN1] at CT2
        rw [eN1] at hlm
        clear eN1
        replace hln := Lib.hid hln
        replace hlm := Lib.hid hlm
        replace KK := Lib.hid KK
        have wN2 : wrap64 ((N : Int) + 1) = (N : Int) + 1 := by have := hN.out; exact IntWalk.wrap64_in _ (by omega)
        have Q_om' := Lib.hid om'.feet
        have Q_otc := Lib.hid otc.feet
        have e_a_0 := B_a.a11_0
        go_wp2_with fail
        clear e_a_0
        refine (CT1.out _ om'.rd (LMx.out _ V7)).mono ?_
        rintro e w2' ⟨mb1, md1, rfl, j1, u_w2'⟩
        replace B_a := B_a.below u_w2'
        replace B_b := B_b.below u_w2'
        replace B_r := B_r.below u_w2'
        replace B_q := B_q.below u_w2'
        replace om' := om'.below u_w2'
        replace otc := otc.below u_w2'
        have S_w2' := u_w2'.size
        have V_w2' := V7.trans (Only.of_below u_w2')
        clear V7
        clear u_w2'
        have Q_j1 := Lib.hid j1.feet
        go_upto_region 6 with fail
        refine Exists.elim (Blk.new_ w2' (b := w2'.heap.size) rfl 44 #[.int .i64 s.party, .int .i64 s.step, .slice mb1 ln.length md1]) (fun w3' q => ?_)
        rw [q.1]; have B_m := q.2.1; have s_w3' := q.2.2.1; have u_w3' := q.2.2.2; clear q
        replace B_a := B_a.below u_w3'
        replace B_b := B_b.below u_w3'
        replace B_r := B_r.below u_w3'
        replace B_q := B_q.below u_w3'
        replace om' := om'.below u_w3'
        replace otc := otc.below u_w3'
        replace j1 := j1.below u_w3'
        have S_w3' : w2'.heap.size + 1 ≤ w3'.heap.size := Nat.le_of_eq s_w3'.symm
        have V_w3' := V_w2'.trans (Only.of_below u_w3')
        clear u_w3' s_w3' V_w2'
        have e_a_0 := B_a.a11_0
        go_wp2_with fail
        clear e_a_0
        refine (CT2.out _ om'.rd (LMx.out _ V_w3')).mono ?_
        rintro e w4' ⟨mb2, md2, rfl, j2, u_w4'⟩
        replace B_a := B_a.below u_w4'
        replace B_b := B_b.below u_w4'
        replace B_r := B_r.below u_w4'
        replace B_q := B_q.below u_w4'
        replace B_m := B_m.below u_w4'
        replace om' := om'.below u_w4'
        replace otc := otc.below u_w4'
        replace j1 := j1.below u_w4'
        have S_w4' := u_w4'.size
        have V_w4' := V_w3'.trans (Only.of_below u_w4')
        clear V_w3'
        clear u_w4'
        have Q_j2 := Lib.hid j2.feet
        go_upto_region 7 with fail
        refine Exists.elim (Blk.new_ w4' (b := w4'.heap.size) rfl 44 #[.int .i64 t.party, .int .i64 t.step, .slice mb2 lm.length md2]) (fun w5' q => ?_)
        rw [q.1]; have B_n := q.2.1; have s_w5' := q.2.2.1; have u_w5' := q.2.2.2; clear q
        replace B_a := B_a.below u_w5'
        replace B_b := B_b.below u_w5'
        replace B_r := B_r.below u_w5'
        replace B_q := B_q.below u_w5'
        replace B_m := B_m.below u_w5'
        replace om' := om'.below u_w5'
        replace otc := otc.below u_w5'
        replace j1 := j1.below u_w5'
        replace j2 := j2.below u_w5'
        have S_w5' : w4'.heap.size + 1 ≤ w5'.heap.size := Nat.le_of_eq s_w5'.symm
        have V_w5' := V_w4'.trans (Only.of_below u_w5')
        clear u_w5' s_w5' V_w4'
        clear CT1 CT2
        have SMM := Lib.hid (show w7.heap.size ≤ w5'.heap.size by omega)
        have Bj1 : Hid (∀ q ∈ foot mb1 md1, w7.heap.size ≤ q ∧ q < w5'.heap.size) := Lib.hid (fun q hq => by have := Q_j1.out q hq; omega)
        have Bj2 : Hid (∀ q ∈ foot mb2 md2, w7.heap.size ≤ q ∧ q < w5'.heap.size) := Lib.hid (fun q hq => by have := Q_j2.out q hq; omega)
        have hN6 : N ≤ 6 := by have := hN.out; omega
        have e_m := B_m.all3
        have e_n := B_n.all3
        go_wp2_with (at_builtin; refine wpList_appM rfl _ _ rfl (w.heap.size + 4) pt N ct xt rfl (OwnC.below otc ((Below.refl _ _).alloc (Nat.le_refl _) _)) _ 2 2 [.int .i64 s.party, .int .i64 s.step, .slice mb1 ln.length md1, .int .i64 t.party, .int .i64 t.step, .slice mb2 lm.length md2] rfl (row_msg2 _ _ _ _ _ _ _ _ _ _ _) (fun v hv => by simp only [List.mem_cons, List.not_mem_nil, or_false] at hv; rcases hv with rfl | rfl | rfl | rfl | rfl | rfl <;> rfl) (by omega) (by simp; omega) ?_)
        clear e_m e_n
        intro a6 c6 w9 o6 u6 g6 mv6
        obtain ⟨wA, hwA⟩ : ∃ q, q = (w5'.alloc (.cells #[.int .i64 s.party, .int .i64 s.step, .slice mb1 ln.length md1, .int .i64 t.party, .int .i64 t.step, .slice mb2 lm.length md2] 44)) := ⟨_, rfl⟩
        rw [← hwA] at u6 g6 mv6
        have GA : Below w5'.heap.size w5' wA := by rw [hwA]; exact (Below.refl _ _).alloc (Nat.le_refl _) _
        clear hwA
        have GM : Only (foot pt ct) wA w9 := Only.of_grown g6
        have hfA : ∀ q ∈ foot pt ct, w.heap.size + 4 ≤ q ∧ q < wr.heap.size := fun q hq => Q_ot.out q hq
        replace B_a := (B_a.below GA).only GM (fun hq => by have := hfA _ hq; omega)
        replace B_b := (B_b.below GA).only GM (fun hq => by have := hfA _ hq; omega)
        replace B_r := (B_r.below GA).only GM (fun hq => by have := hfA _ hq; omega)
        replace B_q := (B_q.below GA).only GM (fun hq => by have := hfA _ hq; omega)
        replace B_m := (B_m.below GA).only GM (fun hq => by have := hfA _ hq; omega)
        replace B_n := (B_n.below GA).only GM (fun hq => by have := hfA _ hq; omega)
        replace om' := (om'.below GA).only GM (fun q hq hq' => HD5.out q hq' hq)
        have JJ1 : Ints w9 mb1 ln.length md1 ln := ((j1.below GA).only GM (fun q hq hq' => by have := Bj1.out q hq; have := hfA q hq'; omega)).ints
        have JJ2 : Ints w9 mb2 lm.length md2 lm := ((j2.below GA).only GM (fun q hq hq' => by have := Bj2.out q hq; have := hfA q hq'; omega)).ints
        have SGA := GA.size
        have SGM := GM.size
        have V9 : Only FX wr w9 := ((V_w5').trans (Only.of_below GA)).trans (GM.more iFt.out)
        have hP6 : ∀ X : List Nat, Disj X (foot pt ct) → (∀ k ∈ X, k < wA.heap.size) → Disj X (foot a6 c6) := fun X hX hX2 => (mv6.disj hX.symm (fun k hk => hX2 k hk)).symm
        have H6 : Hid (∀ q ∈ foot a6 c6, w.heap.size + 4 ≤ q ∧ q < w9.heap.size ∧ (q ∈ foot pt ct ∨ w5'.heap.size ≤ q)) := Lib.hid (fun q hq => ⟨(o6.feet q hq).1, (o6.feet q hq).2, by
          by_cases h1 : q ∈ foot pt ct
          · exact Or.inl h1
          · by_cases h2 : q < w5'.heap.size
            · exact absurd hq (hP6 [q] (by intro y hy; simp at hy; subst hy; exact h1) (by intro y hy; simp at hy; omega) q (by simp))
            · right; omega⟩)
        have DM6 : Hid (Disj Fm' (foot a6 c6)) := Lib.hid (hP6 Fm' (fun q hq hq' => HD5.out q hq' hq) (fun q hq => by have := Q_om5.out q hq; have := SMM.out; omega))
        have hbo : Hid ((w.heap.size ≤ wr.heap.size) ∧ (wr.heap.size ≤ w7.heap.size) ∧ w7.heap.size ≤ w5'.heap.size) := Lib.hid ⟨by omega, s7, SMM.out⟩
        obtain ⟨F8, hF8⟩ : ∃ F, F = FX ++ foot a5 c5 ++ foot a6 c6 := ⟨_, rfl⟩
        have h8 : ∀ q ∈ F8, (q ∈ [w.heap.size, w.heap.size + 1, w.heap.size + 2, w.heap.size + 3] ++ foot p c ++ foot pt ct ∨ wr.heap.size ≤ q) ∧ q < w9.heap.size := fun q hq => by
          rw [hF8] at hq
          simp only [List.mem_append] at hq
          rcases hq with (h | h) | h
          · have := FXlt.out q h; rw [hFX.out] at h; exact ⟨Or.inl h, by omega⟩
          · have := H5.out q h
            refine ⟨?_, by omega⟩
            rcases this.2 with h' | h'
            · left; simp [h']
            · exact Or.inr h'
          · have := H6.out q h
            refine ⟨?_, this.2.1⟩
            rcases this.2.2 with h' | h'
            · left; simp [h']
            · right; omega
        have F8lt : Hid (∀ q ∈ F8, q < w9.heap.size) := Lib.hid (fun q hq => (h8 q hq).2)
        have G8 : Only F8 wr w9 := V9.more (fun q hq => by rw [hF8]; simp [hq])
        have oa8 := (oa.re (fun q hq => (h8 q hq).1)).only G8
        have ob8 := (ob.re (fun q hq => (h8 q hq).1)).only G8
        have iF8 : Hid (w.heap.size ∈ F8 ∧ w.heap.size + 1 ∈ F8) := Lib.hid (by rw [hF8]; simp [iFX.out.1, iFX.out.2])
        have N8 : Hid (∀ q ∈ [w.heap.size, w.heap.size + 1, w.heap.size + 2, w.heap.size + 3] ++ foot a5 c5 ++ foot a6 c6, q ∈ F8) := Lib.hid (fun q hq => by rw [hF8, hFX.out]; simp only [List.mem_append] at hq ⊢; rcases hq with (h | h) | h; exact Or.inl (Or.inl (Or.inl (Or.inl h))); exact Or.inl (Or.inr h); exact Or.inr h)
        have OFF : ∀ (y : Nat), w7.heap.size ≤ y → y < w5'.heap.size → y ∉ F8 := fun y h1 h2 hm => by
          rw [hF8] at hm
          simp only [List.mem_append] at hm
          rcases hm with (h | h) | h
          · have := FXlt.out y h; omega
          · have := H5.out y h; omega
          · have := H6.out y h
            rcases this.2.2 with h' | h'
            · have := hfA y h'; omega
            · omega
        have O1 : Hid (Off F8 mb1 ln.length) := Lib.hid (fun hn y hy hm => by have hq := Bj1.out y.block (by rw [hy]; exact foot_mem (by have := j1.cap; omega)); exact OFF _ hq.1 hq.2 hm)
        have O2 : Hid (Off F8 mb2 lm.length) := Lib.hid (fun hn y hy hm => by have hq := Bj2.out y.block (by rw [hy]; exact foot_mem (by have := j2.cap; omega)); exact OFF _ hq.1 hq.2 hm)
        have S79 : w7.heap.size ≤ w9.heap.size := by omega
        have RNX := Lib.hid (RunE.next hlt LRS.out HRE.out)
        clear j1 j2 otc oa ob om ot GA GM hfA hP6 u6 g6 mv6 OFF G8 h8 SGA SGM
        replace hF8 := Lib.hid hF8
        have Q_o6 := Lib.hid o6.feet
        have e_a := B_a.all11
        have e_n := B_n.all3
        go_wp2_with fail
        clear e_a e_n
        have CT := ptTake_B s xs t.party t.step mb2 _ md2 lm w9 F8 (fun q hq => by have := F8lt.out q hq; omega) oa8 JJ2 hsn.out (by have := hst3.out; omega)
        obtain ⟨s2, hs2⟩ : ∃ q, takeP s t.party t.step lm = q := ⟨_, rfl⟩
        rw [hs2] at CT
        replace hs2 := Lib.hid hs2
        refine CT.mono ?_
        clear CT
        rintro e wK ⟨xa, rfl, pa2, UX⟩
        replace ob8 := ob8.below UX
        replace JJ1 := JJ1.below UX
        have UX2 := UX
        replace B_a := B_a.below UX2
        replace B_b := B_b.below UX2
        replace B_r := B_r.below UX2
        replace B_q := B_q.below UX2
        replace B_m := B_m.below UX2
        replace B_n := B_n.below UX2
        replace om' := om'.below UX2
        replace o6 := o6.below UX2
        have S_wK := UX2.size
        have V_wK := V9.trans (Only.of_below UX2)
        clear V9
        clear UX2
        have e_a := B_a.all11
        have f_a := B_a.frz11
        go_upto_region 9 with fail
        clear e_a f_a
        refine Exists.elim (B_a.row11 (.int .i64 s2.P) (.int .i64 s2.party) (.int .i64 s2.input) (.int .i64 s2.mask) (.int .i64 s2.delta) (.slice xa.sa xa.sn xa.sc) (.slice xa.ka xa.kn xa.kc) (.int .i64 s2.step) (.slice xa.ha xa.hn xa.hc) (.int .i64 s2.status) (.int .i64 s2.out)) (fun w6' q => ?_)
        rw [q.1]; replace B_a := q.2.1; have G := q.2.2; clear q
        have V_w6' := (V_wK).thn G (fun q hq => by first | (left; have := (V_wK).size; simp at hq; omega) | (right; simp at hq; rw [hq]; first | exact iFX.out.1 | exact iFX.out.2))
        replace B_b := B_b.only G (by first | (simp; done) | (simp; omega))
        replace B_r := B_r.only G (by first | (simp; done) | (simp; omega))
        replace B_q := B_q.only G (by first | (simp; done) | (simp; omega))
        replace B_m := B_m.only G (by first | (simp; done) | (simp; omega))
        replace B_n := B_n.only G (by first | (simp; done) | (simp; omega))
        replace om' := om'.only G (fun q hq hq' => by have := Q_om'.out q hq; simp at hq'; omega)
        replace o6 := o6.only G (fun q hq hq' => by have := Q_o6.out q hq; simp at hq'; omega)
        have sG0 := G.size
        have GX := G
        clear G
        clear V_wK
        have S_w6' : wK.heap.size + 0 ≤ w6'.heap.size := by omega
        clear sG0
        have GF := GX.more (F' := F8) (fun q hq => by simp at hq; rw [hq]; exact iF8.out.1)
        replace pa2 := pa2.only GF
        replace ob8 := ob8.only GF
        replace JJ1 := JJ1.onlyOff GF O1.out
        clear GF GX UX
        have e_b := B_b.all11
        have e_m := B_m.all3
        go_wp2_with fail
        clear e_b e_m
        have CT := ptTake_B t ys s.party s.step mb1 _ md1 ln w6' F8 (fun q hq => by have := F8lt.out q hq; omega) ob8 JJ1 htn.out (by have := hst3.out; omega)
        obtain ⟨t2, ht2⟩ : ∃ q, takeP t s.party s.step ln = q := ⟨_, rfl⟩
        rw [ht2] at CT
        replace ht2 := Lib.hid ht2
        refine CT.mono ?_
        clear CT
        rintro e wL ⟨xb, rfl, pb2, UX⟩
        replace pa2 := pa2.below UX
        have UX2 := UX
        replace B_a := B_a.below UX2
        replace B_b := B_b.below UX2
        replace B_r := B_r.below UX2
        replace B_q := B_q.below UX2
        replace B_m := B_m.below UX2
        replace B_n := B_n.below UX2
        replace om' := om'.below UX2
        replace o6 := o6.below UX2
        have S_wL := UX2.size
        have V_wL := V_w6'.trans (Only.of_below UX2)
        clear V_w6'
        clear UX2
        have e_b := B_b.all11
        have f_b := B_b.frz11
        go_wp2_with fail
        clear e_b f_b
        refine Exists.elim (B_b.row11 (.int .i64 t2.P) (.int .i64 t2.party) (.int .i64 t2.input) (.int .i64 t2.mask) (.int .i64 t2.delta) (.slice xb.sa xb.sn xb.sc) (.slice xb.ka xb.kn xb.kc) (.int .i64 t2.step) (.slice xb.ha xb.hn xb.hc) (.int .i64 t2.status) (.int .i64 t2.out)) (fun w7' q => ?_)
        rw [q.1]; replace B_b := q.2.1; have G := q.2.2; clear q
        have V_w7' := (V_wL).thn G (fun q hq => by first | (left; have := (V_wL).size; simp at hq; omega) | (right; simp at hq; rw [hq]; first | exact iFX.out.1 | exact iFX.out.2))
        replace B_a := B_a.only G (by first | (simp; done) | (simp; omega))
        replace B_r := B_r.only G (by first | (simp; done) | (simp; omega))
        replace B_q := B_q.only G (by first | (simp; done) | (simp; omega))
        replace B_m := B_m.only G (by first | (simp; done) | (simp; omega))
        replace B_n := B_n.only G (by first | (simp; done) | (simp; omega))
        replace om' := om'.only G (fun q hq hq' => by have := Q_om'.out q hq; simp at hq'; omega)
        replace o6 := o6.only G (fun q hq hq' => by have := Q_o6.out q hq; simp at hq'; omega)
        have sG0 := G.size
        have GX := G
        clear G
        clear V_wL
        have S_w7' : wL.heap.size + 0 ≤ w7'.heap.size := by omega
        clear sG0
        have GF := GX.more (F' := F8) (fun q hq => by simp at hq; rw [hq]; exact iF8.out.2)
        replace pa2 := pa2.only GF
        replace pb2 := pb2.only GF
        clear GF GX UX
        have RN2 := RNX.out
        have e1 : takeM s ((chgP a.P at_ i.toNat kk) (D.length + 1) (mesP 1 t)) = s2 := by
          have q1 := chgP_fst a.P at_ kk ((D.length : Int) + 1) i.toNat (mesP 1 t)
          have q2 : ((chgP a.P at_ i.toNat kk) ((D.length : Int) + 1) (mesP 1 t)).2.2 = lm := by rw [← hlm.out, hDl.out, hsP.out]; unfold mesP; rw [htpa.out]
          unfold takeM
          rw [q1.1, q1.2, q2, ← hs2.out, htpa.out]; rfl
        have e2 : takeM t ((chgP a.P at_ i.toNat kk) D.length (mesP 0 s)) = t2 := by
          have q1 := chgP_fst a.P at_ kk (D.length : Int) i.toNat (mesP 0 s)
          have q2 : ((chgP a.P at_ i.toNat kk) (D.length : Int) (mesP 0 s)).2.2 = ln := by rw [← hln.out, hDl.out, hsP.out]; unfold mesP; rw [hspa.out]
          unfold takeM
          rw [q1.1, q1.2, q2, ← ht2.out, hspa.out]; rfl
        have PX : PlN s2 ∧ PlN t2 ∧ s2.P = a.P ∧ t2.P = a.P ∧ s2.party = 0 ∧ t2.party = 1 := by
          rw [← e1, ← e2, takeM_P, takeM_P, takeM_party, takeM_party]; exact ⟨(takeM_n LRS.out (by omega) _ ((chgP a.P at_ i.toNat kk) D.length (mesP 0 s))).1, (takeM_n LRS.out (by omega) ((chgP a.P at_ i.toNat kk) ((D.length : Int) + 1) (mesP 1 t)) _).2, hsP.out, htP.out, hspa.out, htpa.out⟩
        rw [e1, e2] at RN2
        have DM : D ++ [mesP 0 s, mesP 1 t] = D ++ [(s.party, s.step, bodyL s), (t.party, t.step, bodyL t)] := by unfold mesP; rw [hspa.out, htpa.out]
        rw [DM] at RN2
        have VV : Below w.heap.size w w7' := V_wr.out.trans ((V_w7').below (by omega) (fun q hq => (FXlt.out q hq).1))
        have hN2 : N + 2 = 2 * (k + 1) := by have := hN.out; omega
        have KP : w.heap.size + 4 ≤ w7'.heap.size := by omega
        replace RN2 := Lib.hid RN2
        replace PX := Lib.hid PX
        clear e1 e2 DM
        go_wp2
        go_roundw
        case rel => exact ⟨⟨k + 1, s2, t2, D ++ [(s.party, s.step, bodyL s), (t.party, t.step, bodyL t)], xa, xb, a5, c5, Fm', a6, c6, _⟩, by rw [hN2], by rw [hN2], (show NRunLF (chgP a.P at_ i.toNat kk) RP a.P w (k + 1) s2 t2 (D ++ [(s.party, s.step, bodyL s), (t.party, t.step, bodyL t)]) xa xb a5 c5 Fm' a6 c6 _ w7' from ⟨by omega, VV, B_r, B_q, KP, by have := hDl.out; simp; omega, B_a, B_b, pa2.re (fun q hq => Or.inl (N8.out q hq)), pb2.re (fun q hq => Or.inl (N8.out q hq)), hN2 ▸ om', hN2 ▸ o6, DM6.out, PX.out.1, PX.out.2.1, PX.out.2.2.1, PX.out.2.2.2.1, PX.out.2.2.2.2.1, PX.out.2.2.2.2.2, RN2.out⟩)⟩
        case measure => simp [lenV]; have := hN.out; omega
    · have RPX : Hid (RP = (s, t, D)) := Lib.hid (by
        rcases hre with h | h
        · exact absurd (And.intro h.2.1.ta h.2.1.tb) hst
        · exact h.2)
      clear hre
      have CO1 := Lib.hid (fun (W : World) (h2 : PlR W xs s.shares s.keys s.heard) => ptOwn_any s xs W h2 hsn.out)
      have CO2 := Lib.hid (fun (W : World) (h2 : PlR W ys t.shares t.keys t.heard) => ptOwn_any t ys W h2 htn.out)
      by_cases hs0 : s.status = 0
      · have d1 : ((s.status == 0) : Bool) = true := by simpa using hs0
        have d2 : ((t.status == 0) : Bool) = false := by
          have : t.status ≠ 0 := fun e => hst ⟨hs0, e⟩
          simpa using this
        clear hst
        replace hs0 := Lib.hid hs0
        have e_a9 := B_a.cell 9
        have e_b9 := B_b.cell 9
        go_upto_region 10 with fail
        clear e_a9 e_b9
        replace B_a := Blk.drew B_a
        replace B_b := Blk.drew B_b
        refine wp_region_noPanic ?_
        refine wp_region_held_drew (S := (fun W => Blk W (w.heap.size) 31 #[.int .i64 s.P, .int .i64 s.party, .int .i64 s.input, .int .i64 s.mask, .int .i64 s.delta, .slice xs.sa xs.sn xs.sc, .slice xs.ka xs.kn xs.kc, .int .i64 s.step, .slice xs.ha xs.hn xs.hc, .int .i64 s.status, .int .i64 s.out] ∧ Blk W (w.heap.size + 1) 31 #[.int .i64 t.P, .int .i64 t.party, .int .i64 t.input, .int .i64 t.mask, .int .i64 t.delta, .slice ys.sa ys.sn ys.sc, .slice ys.ka ys.kn ys.kc, .int .i64 t.step, .slice ys.ha ys.hn ys.hc, .int .i64 t.status, .int .i64 t.out])) (by kernel_rfl) ?hS6 (fun hHeld => ?go6)
        case hS6 => exact ⟨B_a, B_b⟩
        refine tk (i := 0) (oi := ⟨some 55, _, _, _, _, _⟩) (v := ?v0_7) hHeld rfl ?y0_7 ?r0_7
        case y0_7 => (intro w hSw; obtain ⟨qS0, qS1⟩ := hSw; have cS0 := qS0.all11; have cS1 := qS1.all11; first | (go_simp; first | done | with_reducible rfl) | with_reducible rfl)
        (try simp only [pt_])
        refine tk (i := 2) (oi := ⟨some 57, _, _, _, _, _⟩) (v := ?v2_8) hHeld rfl ?y2_8 ?r2_8
        case y2_8 => (intro w hSw; obtain ⟨qS0, qS1⟩ := hSw; have cS0 := qS0.all11; have cS1 := qS1.all11; first | (go_simp; first | done | with_reducible rfl) | with_reducible rfl)
        (try simp only [pt_])
        refine tk (i := 4) (oi := ⟨some 59, _, _, _, _, _⟩) (v := ?v4_9) hHeld rfl ?y4_9 ?r4_9
        case y4_9 => (intro w _; first | (go_simp; first | done | with_reducible rfl) | with_reducible rfl)
        (try simp only [pt_])
        rotate_left 1
        refine wpAnyH_inv [1, 3] #[true, false, true, false, true, false, false, false] #[true, true, true, true, true, false, false, false] 5 3 (fun (a0J : Act) (lJ : Array Bool) (aJ : Act) (wJ : World) => ∃ dJ : NRunED, lJ = #[true, dJ.l1, true, dJ.l3, true, false, false, false] ∧ aJ = ((a0J.put (some 56) dJ.v1).put (some 58) dJ.v3) ∧ NRunEF wr s t dJ.l1 dJ.l3 dJ.v1 dJ.v3 dJ.ya dJ.Fa dJ.yb dJ.Fb wJ) (by kernel_rfl) (by kernel_rfl) (by kernel_rfl) (by kernel_rfl) (by kernel_rfl) ?hJ hHeld ?hi ?hs ?he
        case hJ => rintro lJ aJ wJ ⟨dJ, rfl, _⟩; exact ⟨[dJ.l1, dJ.l3], rfl, rfl⟩
        case hi => exact ⟨⟨false, false, _, _, ⟨none, 0, 0, none, 0, 0, none, 0, 0⟩, [], ⟨none, 0, 0, none, 0, 0, none, 0, 0⟩, []⟩, rfl, (Act.selfs (Act.selfs rfl 56) 58), ⟨(Below.refl _ _).drew, fun q0 => (by cases q0), fun q0 => (by cases q0), fun q0 => (by cases q0), fun q0 => (by cases q0), fun q0 => (by cases q0), fun q0 q1 => (by cases q0)⟩⟩
        case hs =>
          refine StepsI.cons (o := ⟨some 56, _, _, _, _, _⟩) rfl ?_ ?_
          · intro lJ aJ wi K hS hJ hz0 hd hK
            obtain ⟨dJ, hJ⟩ := hJ
            obtain ⟨e1, hJ⟩ := hJ
            obtain ⟨e2, hF⟩ := hJ
            subst e1
            subst e2
            cases dJ with | mk l1 l3 v1 v3 ya Fa yb Fb =>
            replace hF : NRunEF wr s t l1 l3 v1 v3 ya Fa yb Fb wi := hF
            have U := hF.U
            have k3_1 := hF.k3_1
            have r1 := hF.r1
            have r3 := hF.r3
            have o1 := hF.o1
            have o3 := hF.o3
            have D13 := hF.D13
            clear hF
            have e0 : l1 = false := hz0; subst e0
            clear hz0 hd
            have B_a := hS.1
            have B_b := hS.2
            clear hS
            (try simp only [Act.put, List.setIfInBounds_toArray, List.set_cons_zero, List.set_cons_succ])
            replace k3_1 := Lib.hid k3_1
            replace r1 := Lib.hid r1
            replace r3 := Lib.hid r3
            go_simp
            refine (CO1.out _ (oa.below U).rd).mono ?_
            rintro e wo ⟨y', F', rfl, n1, u⟩
            replace B_a := (B_a).below u
            replace B_b := (B_b).below u
            exact hK.out _ _ ⟨B_a, B_b⟩ ⟨⟨true, l3, .agg #[.int .i64 s.P, .int .i64 s.party, .int .i64 s.input, .int .i64 s.mask, .int .i64 s.delta, .slice y'.sa y'.sn y'.sc, .slice y'.ka y'.kn y'.kc, .int .i64 s.step, .slice y'.ha y'.hn y'.hc, .int .i64 s.status, .int .i64 s.out], v3, y', F', yb, Fb⟩, rfl, by kernel_rfl, (show NRunEF wr s t true l3 (.agg #[.int .i64 s.P, .int .i64 s.party, .int .i64 s.input, .int .i64 s.mask, .int .i64 s.delta, .slice y'.sa y'.sn y'.sc, .slice y'.ka y'.kn y'.kc, .int .i64 s.step, .slice y'.ha y'.hn y'.hc, .int .i64 s.status, .int .i64 s.out]) v3 y' F' yb Fb wo from ⟨((U).trans (u.mono (U).size)), (fun nd3 => (by cases k3_1.out nd3)), (fun nd1 => rfl), (fun nd3 => (by cases k3_1.out nd3)), (fun nd1 => n1.lower U.size), (fun nd3 => (by cases k3_1.out nd3)), (fun nd1 nd3 => (by cases k3_1.out nd3))⟩)⟩
          refine StepsI.cons (o := ⟨some 58, _, _, _, _, _⟩) rfl ?_ ?_
          · intro lJ aJ wi K hS hJ hz0 hd hK
            obtain ⟨dJ, hJ⟩ := hJ
            obtain ⟨e1, hJ⟩ := hJ
            obtain ⟨e2, hF⟩ := hJ
            subst e1
            subst e2
            cases dJ with | mk l1 l3 v1 v3 ya Fa yb Fb =>
            replace hF : NRunEF wr s t l1 l3 v1 v3 ya Fa yb Fb wi := hF
            have U := hF.U
            have k3_1 := hF.k3_1
            have r1 := hF.r1
            have r3 := hF.r3
            have o1 := hF.o1
            have o3 := hF.o3
            have D13 := hF.D13
            clear hF
            have e0 : l3 = false := hz0; subst e0
            have e1 : l1 = true := hd 1 (by kernel_rfl); subst e1
            clear hz0 hd
            have B_a := hS.1
            have B_b := hS.2
            clear hS
            (try simp only [Act.put, List.setIfInBounds_toArray, List.set_cons_zero, List.set_cons_succ])
            replace k3_1 := Lib.hid k3_1
            replace r1 := Lib.hid r1
            replace r3 := Lib.hid r3
            go_simp
            refine (CO2.out _ (ob.below U).rd).mono ?_
            rintro e wo ⟨y', F', rfl, n1, u⟩
            replace B_a := (B_a).below u
            replace B_b := (B_b).below u
            exact hK.out _ _ ⟨B_a, B_b⟩ ⟨⟨true, true, v1, .agg #[.int .i64 t.P, .int .i64 t.party, .int .i64 t.input, .int .i64 t.mask, .int .i64 t.delta, .slice y'.sa y'.sn y'.sc, .slice y'.ka y'.kn y'.kc, .int .i64 t.step, .slice y'.ha y'.hn y'.hc, .int .i64 t.status, .int .i64 t.out], ya, Fa, y', F'⟩, rfl, by kernel_rfl, (show NRunEF wr s t true true v1 (.agg #[.int .i64 t.P, .int .i64 t.party, .int .i64 t.input, .int .i64 t.mask, .int .i64 t.delta, .slice y'.sa y'.sn y'.sc, .slice y'.ka y'.kn y'.kc, .int .i64 t.step, .slice y'.ha y'.hn y'.hc, .int .i64 t.status, .int .i64 t.out]) ya Fa y' F' wo from ⟨((U).trans (u.mono (U).size)), (fun nd3 => rfl), (fun nd1 => (r1.out nd1)), (fun nd3 => rfl), (fun nd1 => ((o1 nd1)).below u), (fun nd3 => n1.lower U.size), (fun nd1 nd3 => fun q hq hq' => by have := (o1 rfl).feet q hq; have := n1.feet q hq'; omega)⟩)⟩
          exact StepsI.nil
        case he =>
          intro aJ wc hS hJ
          obtain ⟨dJ, hJ⟩ := hJ
          obtain ⟨hl, hJ⟩ := hJ
          obtain ⟨e2, hF⟩ := hJ
          subst e2
          cases dJ with | mk l1 l3 v1 v3 ya Fa yb Fb =>
          replace hF : NRunEF wr s t l1 l3 v1 v3 ya Fa yb Fb wc := hF
          have U := hF.U
          have k3_1 := hF.k3_1
          have r1 := hF.r1
          have r3 := hF.r3
          have o1 := hF.o1
          have o3 := hF.o3
          have D13 := hF.D13
          clear hF
          have e1 : true = l1 := congrArg (fun q : Array Bool => q.getD 1 true) hl; subst e1
          have e3 : true = l3 := congrArg (fun q : Array Bool => q.getD 3 true) hl; subst e3
          clear hl k3_1
          replace r1 := r1 rfl
          replace r3 := r3 rfl
          replace o1 := o1 rfl
          replace o3 := o3 rfl
          replace D13 := D13 rfl rfl
          have hHeld := hS
          have B_a := hS.1
          have B_b := hS.2
          clear hS
          (try simp only [Act.put, List.setIfInBounds_toArray, List.set_cons_zero, List.set_cons_succ])
          subst r1 r3
          replace B_r := B_r.below U
          replace B_q := B_q.below U
          have Q_o1 := Lib.hid o1.feet
          have Q_o3 := Lib.hid o3.feet
          have SU := U.size
          have G_all : Only [w.heap.size + 2, w.heap.size + 3] wc wc := Only.refl _ _
          refine wpAnyH_ready (rs := [5]) (by kernel_rfl) (by simp) ?_
          refine AllReadyH.cons (o := ⟨none, _, _, _, _, _⟩) rfl (fun K hK => ?_) ?_
          refine step_st B_r (by simp [Region.wanted]) _ _ _ (by rfl) (by rfl) (by rfl) (by kernel_rfl) (by rfl) (by simp [Value.oneCell']) ?_
          intro wS5 B_r' G
          replace B_r := B_r'; clear B_r'
          replace B_a := B_a.only G (by first | (simp; done) | (simp; omega))
          replace B_b := B_b.only G (by first | (simp; done) | (simp; omega))
          replace B_q := B_q.only G (by first | (simp; done) | (simp; omega))
          replace o1 := o1.only G (fun q hq hq' => by have := Q_o1.out q hq; simp at hq'; omega)
          replace o3 := o3.only G (fun q hq hq' => by have := Q_o3.out q hq; simp at hq'; omega)
          replace G_all := G_all.trans (G.more (F' := [w.heap.size + 2, w.heap.size + 3]) (by simp))
          clear G
          refine hK.out _ _ ?_ (fun hHeld => ?_)
          · exact ⟨B_a, B_b⟩
          clear hK K
          (try simp only [pt_])
          refine wpAnyH_ready (rs := [6]) (by kernel_rfl) (by simp) ?_
          refine AllReadyH.cons (o := ⟨none, _, _, _, _, _⟩) rfl (fun K hK => ?_) ?_
          refine step_st B_q (by simp [Region.wanted]) _ _ _ (by rfl) (by rfl) (by rfl) (by kernel_rfl) (by rfl) (by simp [Value.oneCell']) ?_
          intro wS6 B_q' G
          replace B_q := B_q'; clear B_q'
          replace B_a := B_a.only G (by first | (simp; done) | (simp; omega))
          replace B_b := B_b.only G (by first | (simp; done) | (simp; omega))
          replace B_r := B_r.only G (by first | (simp; done) | (simp; omega))
          replace o1 := o1.only G (fun q hq hq' => by have := Q_o1.out q hq; simp at hq'; omega)
          replace o3 := o3.only G (fun q hq hq' => by have := Q_o3.out q hq; simp at hq'; omega)
          replace G_all := G_all.trans (G.more (F' := [w.heap.size + 2, w.heap.size + 3]) (by simp))
          clear G
          refine hK.out _ _ ?_ (fun hHeld => ?_)
          · exact ⟨B_a, B_b⟩
          clear hK K
          (try simp only [pt_])
          refine tk (i := 7) (oi := ⟨some 8, _, _, _, _, _⟩) (v := ?v7_10) hHeld rfl ?y7_10 ?r7_10
          case y7_10 => (intro w _; first | (go_simp; first | done | with_reducible rfl) | with_reducible rfl)
          (try simp only [pt_])
          refine wpAnyH_done (by kernel_rfl) ?_ _
          refine NoPanic.normal ?_
          rotate_left 1
          exact AllReadyH.nil
          exact AllReadyH.nil
          have VE : Below w.heap.size w wS6 := (V_wr.out.trans (U.mono (by omega))).trans (G_all.below (by omega) (by intro q hq; simp at hq; omega))
          refine (‹∀ (a : Act) (w : World), Code.wp Tryd.prog Code.ret _ a w → _›) _ _ ?_
          refine wp_ret ?_
          have e_r := B_r.all11
          have e_q := B_q.all11
          have EE := RPX.out
          subst EE
          exact bodyPost_ret (v := .tuple #[.agg #[.int .i64 s.P, .int .i64 s.party, .int .i64 s.input, .int .i64 s.mask, .int .i64 s.delta, .slice ya.sa ya.sn ya.sc, .slice ya.ka ya.kn ya.kc, .int .i64 s.step, .slice ya.ha ya.hn ya.hc, .int .i64 s.status, .int .i64 s.out], .agg #[.int .i64 t.P, .int .i64 t.party, .int .i64 t.input, .int .i64 t.mask, .int .i64 t.delta, .slice yb.sa yb.sn yb.sc, .slice yb.ka yb.kn yb.kc, .int .i64 t.step, .slice yb.ha yb.hn yb.hc, .int .i64 t.status, .int .i64 t.out], .slice pt N ct]) (by simp [results, Tryd.results97, go_sem, e_r, e_q]) rfl ⟨ya, yb, pt, N, ct, rfl, VE⟩
      · have d1 : ((s.status == 0) : Bool) = false := by simpa using hs0
        clear hst
        replace hs0 := Lib.hid hs0
        have e_a9 := B_a.cell 9
        have e_b9 := B_b.cell 9
        go_upto_region 10 with fail
        clear e_a9 e_b9
        replace B_a := Blk.drew B_a
        replace B_b := Blk.drew B_b
        refine wp_region_noPanic ?_
        refine wp_region_held_drew (S := (fun W => Blk W (w.heap.size) 31 #[.int .i64 s.P, .int .i64 s.party, .int .i64 s.input, .int .i64 s.mask, .int .i64 s.delta, .slice xs.sa xs.sn xs.sc, .slice xs.ka xs.kn xs.kc, .int .i64 s.step, .slice xs.ha xs.hn xs.hc, .int .i64 s.status, .int .i64 s.out] ∧ Blk W (w.heap.size + 1) 31 #[.int .i64 t.P, .int .i64 t.party, .int .i64 t.input, .int .i64 t.mask, .int .i64 t.delta, .slice ys.sa ys.sn ys.sc, .slice ys.ka ys.kn ys.kc, .int .i64 t.step, .slice ys.ha ys.hn ys.hc, .int .i64 t.status, .int .i64 t.out])) (by kernel_rfl) ?hS11 (fun hHeld => ?go11)
        case hS11 => exact ⟨B_a, B_b⟩
        refine tk (i := 0) (oi := ⟨some 55, _, _, _, _, _⟩) (v := ?v0_12) hHeld rfl ?y0_12 ?r0_12
        case y0_12 => (intro w hSw; obtain ⟨qS0, qS1⟩ := hSw; have cS0 := qS0.all11; have cS1 := qS1.all11; first | (go_simp; first | done | with_reducible rfl) | with_reducible rfl)
        (try simp only [pt_])
        refine tk (i := 2) (oi := ⟨some 57, _, _, _, _, _⟩) (v := ?v2_13) hHeld rfl ?y2_13 ?r2_13
        case y2_13 => (intro w hSw; obtain ⟨qS0, qS1⟩ := hSw; have cS0 := qS0.all11; have cS1 := qS1.all11; first | (go_simp; first | done | with_reducible rfl) | with_reducible rfl)
        (try simp only [pt_])
        refine tk (i := 4) (oi := ⟨some 59, _, _, _, _, _⟩) (v := ?v4_14) hHeld rfl ?y4_14 ?r4_14
        case y4_14 => (intro w _; first | (go_simp; first | done | with_reducible rfl) | with_reducible rfl)
        (try simp only [pt_])
        rotate_left 1
        refine wpAnyH_inv [1, 3] #[true, false, true, false, true, false, false, false] #[true, true, true, true, true, false, false, false] 5 3 (fun (a0J : Act) (lJ : Array Bool) (aJ : Act) (wJ : World) => ∃ dJ : NRunED, lJ = #[true, dJ.l1, true, dJ.l3, true, false, false, false] ∧ aJ = ((a0J.put (some 56) dJ.v1).put (some 58) dJ.v3) ∧ NRunEF wr s t dJ.l1 dJ.l3 dJ.v1 dJ.v3 dJ.ya dJ.Fa dJ.yb dJ.Fb wJ) (by kernel_rfl) (by kernel_rfl) (by kernel_rfl) (by kernel_rfl) (by kernel_rfl) ?hJ hHeld ?hi ?hs ?he
        case hJ => rintro lJ aJ wJ ⟨dJ, rfl, _⟩; exact ⟨[dJ.l1, dJ.l3], rfl, rfl⟩
        case hi => exact ⟨⟨false, false, _, _, ⟨none, 0, 0, none, 0, 0, none, 0, 0⟩, [], ⟨none, 0, 0, none, 0, 0, none, 0, 0⟩, []⟩, rfl, (Act.selfs (Act.selfs rfl 56) 58), ⟨(Below.refl _ _).drew, fun q0 => (by cases q0), fun q0 => (by cases q0), fun q0 => (by cases q0), fun q0 => (by cases q0), fun q0 => (by cases q0), fun q0 q1 => (by cases q0)⟩⟩
        case hs =>
          refine StepsI.cons (o := ⟨some 56, _, _, _, _, _⟩) rfl ?_ ?_
          · intro lJ aJ wi K hS hJ hz0 hd hK
            obtain ⟨dJ, hJ⟩ := hJ
            obtain ⟨e1, hJ⟩ := hJ
            obtain ⟨e2, hF⟩ := hJ
            subst e1
            subst e2
            cases dJ with | mk l1 l3 v1 v3 ya Fa yb Fb =>
            replace hF : NRunEF wr s t l1 l3 v1 v3 ya Fa yb Fb wi := hF
            have U := hF.U
            have k3_1 := hF.k3_1
            have r1 := hF.r1
            have r3 := hF.r3
            have o1 := hF.o1
            have o3 := hF.o3
            have D13 := hF.D13
            clear hF
            have e0 : l1 = false := hz0; subst e0
            clear hz0 hd
            have B_a := hS.1
            have B_b := hS.2
            clear hS
            (try simp only [Act.put, List.setIfInBounds_toArray, List.set_cons_zero, List.set_cons_succ])
            replace k3_1 := Lib.hid k3_1
            replace r1 := Lib.hid r1
            replace r3 := Lib.hid r3
            go_simp
            refine (CO1.out _ (oa.below U).rd).mono ?_
            rintro e wo ⟨y', F', rfl, n1, u⟩
            replace B_a := (B_a).below u
            replace B_b := (B_b).below u
            exact hK.out _ _ ⟨B_a, B_b⟩ ⟨⟨true, l3, .agg #[.int .i64 s.P, .int .i64 s.party, .int .i64 s.input, .int .i64 s.mask, .int .i64 s.delta, .slice y'.sa y'.sn y'.sc, .slice y'.ka y'.kn y'.kc, .int .i64 s.step, .slice y'.ha y'.hn y'.hc, .int .i64 s.status, .int .i64 s.out], v3, y', F', yb, Fb⟩, rfl, by kernel_rfl, (show NRunEF wr s t true l3 (.agg #[.int .i64 s.P, .int .i64 s.party, .int .i64 s.input, .int .i64 s.mask, .int .i64 s.delta, .slice y'.sa y'.sn y'.sc, .slice y'.ka y'.kn y'.kc, .int .i64 s.step, .slice y'.ha y'.hn y'.hc, .int .i64 s.status, .int .i64 s.out]) v3 y' F' yb Fb wo from ⟨((U).trans (u.mono (U).size)), (fun nd3 => (by cases k3_1.out nd3)), (fun nd1 => rfl), (fun nd3 => (by cases k3_1.out nd3)), (fun nd1 => n1.lower U.size), (fun nd3 => (by cases k3_1.out nd3)), (fun nd1 nd3 => (by cases k3_1.out nd3))⟩)⟩
          refine StepsI.cons (o := ⟨some 58, _, _, _, _, _⟩) rfl ?_ ?_
          · intro lJ aJ wi K hS hJ hz0 hd hK
            obtain ⟨dJ, hJ⟩ := hJ
            obtain ⟨e1, hJ⟩ := hJ
            obtain ⟨e2, hF⟩ := hJ
            subst e1
            subst e2
            cases dJ with | mk l1 l3 v1 v3 ya Fa yb Fb =>
            replace hF : NRunEF wr s t l1 l3 v1 v3 ya Fa yb Fb wi := hF
            have U := hF.U
            have k3_1 := hF.k3_1
            have r1 := hF.r1
            have r3 := hF.r3
            have o1 := hF.o1
            have o3 := hF.o3
            have D13 := hF.D13
            clear hF
            have e0 : l3 = false := hz0; subst e0
            have e1 : l1 = true := hd 1 (by kernel_rfl); subst e1
            clear hz0 hd
            have B_a := hS.1
            have B_b := hS.2
            clear hS
            (try simp only [Act.put, List.setIfInBounds_toArray, List.set_cons_zero, List.set_cons_succ])
            replace k3_1 := Lib.hid k3_1
            replace r1 := Lib.hid r1
            replace r3 := Lib.hid r3
            go_simp
            refine (CO2.out _ (ob.below U).rd).mono ?_
            rintro e wo ⟨y', F', rfl, n1, u⟩
            replace B_a := (B_a).below u
            replace B_b := (B_b).below u
            exact hK.out _ _ ⟨B_a, B_b⟩ ⟨⟨true, true, v1, .agg #[.int .i64 t.P, .int .i64 t.party, .int .i64 t.input, .int .i64 t.mask, .int .i64 t.delta, .slice y'.sa y'.sn y'.sc, .slice y'.ka y'.kn y'.kc, .int .i64 t.step, .slice y'.ha y'.hn y'.hc, .int .i64 t.status, .int .i64 t.out], ya, Fa, y', F'⟩, rfl, by kernel_rfl, (show NRunEF wr s t true true v1 (.agg #[.int .i64 t.P, .int .i64 t.party, .int .i64 t.input, .int .i64 t.mask, .int .i64 t.delta, .slice y'.sa y'.sn y'.sc, .slice y'.ka y'.kn y'.kc, .int .i64 t.step, .slice y'.ha y'.hn y'.hc, .int .i64 t.status, .int .i64 t.out]) ya Fa y' F' wo from ⟨((U).trans (u.mono (U).size)), (fun nd3 => rfl), (fun nd1 => (r1.out nd1)), (fun nd3 => rfl), (fun nd1 => ((o1 nd1)).below u), (fun nd3 => n1.lower U.size), (fun nd1 nd3 => fun q hq hq' => by have := (o1 rfl).feet q hq; have := n1.feet q hq'; omega)⟩)⟩
          exact StepsI.nil
        case he =>
          intro aJ wc hS hJ
          obtain ⟨dJ, hJ⟩ := hJ
          obtain ⟨hl, hJ⟩ := hJ
          obtain ⟨e2, hF⟩ := hJ
          subst e2
          cases dJ with | mk l1 l3 v1 v3 ya Fa yb Fb =>
          replace hF : NRunEF wr s t l1 l3 v1 v3 ya Fa yb Fb wc := hF
          have U := hF.U
          have k3_1 := hF.k3_1
          have r1 := hF.r1
          have r3 := hF.r3
          have o1 := hF.o1
          have o3 := hF.o3
          have D13 := hF.D13
          clear hF
          have e1 : true = l1 := congrArg (fun q : Array Bool => q.getD 1 true) hl; subst e1
          have e3 : true = l3 := congrArg (fun q : Array Bool => q.getD 3 true) hl; subst e3
          clear hl k3_1
          replace r1 := r1 rfl
          replace r3 := r3 rfl
          replace o1 := o1 rfl
          replace o3 := o3 rfl
          replace D13 := D13 rfl rfl
          have hHeld := hS
          have B_a := hS.1
          have B_b := hS.2
          clear hS
          (try simp only [Act.put, List.setIfInBounds_toArray, List.set_cons_zero, List.set_cons_succ])
          subst r1 r3
          replace B_r := B_r.below U
          replace B_q := B_q.below U
          have Q_o1 := Lib.hid o1.feet
          have Q_o3 := Lib.hid o3.feet
          have SU := U.size
          have G_all : Only [w.heap.size + 2, w.heap.size + 3] wc wc := Only.refl _ _
          refine wpAnyH_ready (rs := [5]) (by kernel_rfl) (by simp) ?_
          refine AllReadyH.cons (o := ⟨none, _, _, _, _, _⟩) rfl (fun K hK => ?_) ?_
          refine step_st B_r (by simp [Region.wanted]) _ _ _ (by rfl) (by rfl) (by rfl) (by kernel_rfl) (by rfl) (by simp [Value.oneCell']) ?_
          intro wS5 B_r' G
          replace B_r := B_r'; clear B_r'
          replace B_a := B_a.only G (by first | (simp; done) | (simp; omega))
          replace B_b := B_b.only G (by first | (simp; done) | (simp; omega))
          replace B_q := B_q.only G (by first | (simp; done) | (simp; omega))
          replace o1 := o1.only G (fun q hq hq' => by have := Q_o1.out q hq; simp at hq'; omega)
          replace o3 := o3.only G (fun q hq hq' => by have := Q_o3.out q hq; simp at hq'; omega)
          replace G_all := G_all.trans (G.more (F' := [w.heap.size + 2, w.heap.size + 3]) (by simp))
          clear G
          refine hK.out _ _ ?_ (fun hHeld => ?_)
          · exact ⟨B_a, B_b⟩
          clear hK K
          (try simp only [pt_])
          refine wpAnyH_ready (rs := [6]) (by kernel_rfl) (by simp) ?_
          refine AllReadyH.cons (o := ⟨none, _, _, _, _, _⟩) rfl (fun K hK => ?_) ?_
          refine step_st B_q (by simp [Region.wanted]) _ _ _ (by rfl) (by rfl) (by rfl) (by kernel_rfl) (by rfl) (by simp [Value.oneCell']) ?_
          intro wS6 B_q' G
          replace B_q := B_q'; clear B_q'
          replace B_a := B_a.only G (by first | (simp; done) | (simp; omega))
          replace B_b := B_b.only G (by first | (simp; done) | (simp; omega))
          replace B_r := B_r.only G (by first | (simp; done) | (simp; omega))
          replace o1 := o1.only G (fun q hq hq' => by have := Q_o1.out q hq; simp at hq'; omega)
          replace o3 := o3.only G (fun q hq hq' => by have := Q_o3.out q hq; simp at hq'; omega)
          replace G_all := G_all.trans (G.more (F' := [w.heap.size + 2, w.heap.size + 3]) (by simp))
          clear G
          refine hK.out _ _ ?_ (fun hHeld => ?_)
          · exact ⟨B_a, B_b⟩
          clear hK K
          (try simp only [pt_])
          refine tk (i := 7) (oi := ⟨some 8, _, _, _, _, _⟩) (v := ?v7_15) hHeld rfl ?y7_15 ?r7_15
          case y7_15 => (intro w _; first | (go_simp; first | done | with_reducible rfl) | with_reducible rfl)
          (try simp only [pt_])
          refine wpAnyH_done (by kernel_rfl) ?_ _
          refine NoPanic.normal ?_
          rotate_left 1
          exact AllReadyH.nil
          exact AllReadyH.nil
          have VE : Below w.heap.size w wS6 := (V_wr.out.trans (U.mono (by omega))).trans (G_all.below (by omega) (by intro q hq; simp at hq; omega))
          refine (‹∀ (a : Act) (w : World), Code.wp Tryd.prog Code.ret _ a w → _›) _ _ ?_
          refine wp_ret ?_
          have e_r := B_r.all11
          have e_q := B_q.all11
          have EE := RPX.out
          subst EE
          exact bodyPost_ret (v := .tuple #[.agg #[.int .i64 s.P, .int .i64 s.party, .int .i64 s.input, .int .i64 s.mask, .int .i64 s.delta, .slice ya.sa ya.sn ya.sc, .slice ya.ka ya.kn ya.kc, .int .i64 s.step, .slice ya.ha ya.hn ya.hc, .int .i64 s.status, .int .i64 s.out], .agg #[.int .i64 t.P, .int .i64 t.party, .int .i64 t.input, .int .i64 t.mask, .int .i64 t.delta, .slice yb.sa yb.sn yb.sc, .slice yb.ka yb.kn yb.kc, .int .i64 t.step, .slice yb.ha yb.hn yb.hc, .int .i64 t.status, .int .i64 t.out], .slice pt N ct]) (by simp [results, Tryd.results97, go_sem, e_r, e_q]) rfl ⟨ya, yb, pt, N, ct, rfl, VE⟩
end Go.Proofs.YtlmdckcohoddnaaDoor
