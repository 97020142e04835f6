/- Lemmas and walks that the claim's proof rests on, part 18. -/
import Derived.Test.YtlmdckcohoddnaaDoorK7
import Derived.Test.YtlmdckcohoddnaaDoorK17
namespace Go.Proofs.YtlmdckcohoddnaaDoor
open Go.RowKit
def rbB (a b : Pl) (at_ i k : Int) : Bool := twoB a b && (inB at_ 0 5 && (inB k 0 (a.P - 1) && inB i 0 ((blen (at_ / 2).toNat : Int) - 1)))
def rbR (a b : Pl) (at_ i k : Int) : Pl × Pl := if rbB a b at_ i k then ((runP (chgP a.P at_ i.toNat k) 3 a b []).1, (runP (chgP a.P at_ i.toNat k) 3 a b []).2.1) else (zeroPl, zeroPl)
theorem rbB_parts {a b : Pl} {at_ i k : Int} (h : rbB a b at_ i k = true) : twoB a b = true ∧ (0 ≤ at_ ∧ at_ ≤ 5) ∧ (0 ≤ k ∧ k ≤ a.P - 1) ∧ (0 ≤ i ∧ i ≤ (blen (at_ / 2).toNat : Int) - 1) := by
  unfold rbB at h
  simp only [Bool.and_eq_true] at h
  exact ⟨h.1, inB_true h.2.1, inB_true h.2.2.1, inB_true h.2.2.2⟩
theorem tdiv_two {x : Int} (h : 0 ≤ x) : x.tdiv 2 = ((x / 2).toNat : Int) := by
  rw [Int.tdiv_eq_ediv_of_nonneg h]; omega
theorem rb1_enters (args : Array Value) (W : World) : (callFunc 85 args).run Tryd.prog W = .ok (.enter 85 args) W :=
  enters Tryd.func85 (by kernel_rfl) (by kernel_rfl) args W
set_option maxHeartbeats 4000000 in
set_option maxRecDepth 100000 in
theorem rb1_any (a : Pl) (x : PlX) (at_ k : Int) (i : Nat) (bT bA bI bK : Nat) (j fr st : Int) (p : Option Addr) (n c : Nat) (l : List Int) (w : World) (hA : Blk w bA 31 #[.int .i64 a.P, .int .i64 a.party, .int .i64 a.input, .int .i64 a.mask, .int .i64 a.delta, .slice x.sa x.sn x.sc, .slice x.ka x.kn x.kc, .int .i64 a.step, .slice x.ha x.hn x.hc, .int .i64 a.status, .int .i64 a.out]) (hT : Blk w bT 3 #[.int .i64 at_]) (hI : Blk w bI 3 #[.int .i64 i]) (hK : Blk w bK 3 #[.int .i64 k])
    (h : Ints w p n c l) (hp : 1 ≤ a.P) (hp2 : a.P ≤ 251) (hl : ∀ v ∈ l, 0 ≤ v ∧ v ≤ a.P - 1) (hs : n ≤ 1000) (hi : j = at_ → i < n) (hk : 0 ≤ k) (hk2 : k ≤ a.P - 1) :
    Calls Tryd.prog 85 (#[.int .i64 j, .agg #[.int .i64 fr, .int .i64 st, .slice p n c]] ++ #[.pointer (some ⟨bT, 0, none⟩), .pointer (some ⟨bA, 0, none⟩), .pointer (some ⟨bI, 0, none⟩), .pointer (some ⟨bK, 0, none⟩)]) w fun e w' => ∃ p' n' c', e = .returned (.agg #[.int .i64 (chgP a.P at_ i k j (fr, st, l)).1, .int .i64 (chgP a.P at_ i k j (fr, st, l)).2.1, .slice p' n' c']) ∧ Ints w' p' n' c' (chgP a.P at_ i k j (fr, st, l)).2.2 ∧ Below w.heap.size w w' := by
  unfold chgP
  by_cases hj : j = at_
  · rw [if_pos hj]
    dsimp only
    have CB := Lib.hid (fun (W : World) (h2 : Ints W p n c l) => bend_any a.P fr st p n c l i k W h2 (by omega) hp (by omega) hl (hi hj) hk hk2)
    subst hj
    have LH := Lib.hid h
    have B_a := hA
    have B_t := hT
    have B_i := hI
    have B_k := hK
    have d1 : ((j == j) : Bool) = true := by simp
    clear h hA hT hI hK hi hl hs hk hk2 hp hp2
    have L_a := Lib.hid B_a.lt
    have L_t := Lib.hid B_t.lt
    have L_i := Lib.hid B_i.lt
    have L_k := Lib.hid B_k.lt
    go_enter Tryd.func85, Tryd.ntmps85
    go_upto_region 1 with fail
    refine Exists.elim (Blk.new_ w (b := w.heap.size) rfl 44 #[.int .i64 fr, .int .i64 st, .slice p n c]) (fun w1_a0' q => ?_)
    rw [q.1]; have B_m := q.2.1; have s_w1_a0' := q.2.2.1; have u_w1_a0' := q.2.2.2; clear q
    refine Exists.elim (Blk.new_ w1_a0' (b := w.heap.size + 1) s_w1_a0' 44 #[.int .i64 0, .int .i64 0, .slice none 0 0]) (fun w1' q => ?_)
    rw [q.1]; have B_r := q.2.1; have s_w1' := q.2.2.1; have u_w1' := q.2.2.2; clear q
    replace B_m := (B_m.below u_w1')
    have U := (u_w1_a0'.trans (u_w1'.mono u_w1_a0'.size))
    replace B_a := B_a.below U
    replace B_t := B_t.below U
    replace B_i := B_i.below U
    replace B_k := B_k.below U
    have S_w1' : w.heap.size + 2 ≤ w1'.heap.size := Nat.le_of_eq s_w1'.symm
    have V_w1' := (Below.refl w.heap.size w).trans (U.mono ((Below.refl w.heap.size w)).size)
    clear u_w1_a0' u_w1' s_w1_a0' s_w1' U
    have e_t_0 := B_t.a1_0
    have e_a_0 := B_a.a11_0
    have e_m := B_m.all3
    have e_i_0 := B_i.a1_0
    have e_k_0 := B_k.a1_0
    go_wp2_with fail
    clear e_t_0 e_a_0 e_m e_i_0 e_k_0
    refine (CB.out _ (LH.out.below V_w1')).mono ?_
    rintro e w2' ⟨b, d, rfl, o1, u_w2'⟩
    replace B_a := B_a.below u_w2'
    replace B_t := B_t.below u_w2'
    replace B_i := B_i.below u_w2'
    replace B_k := B_k.below u_w2'
    replace B_m := B_m.below u_w2'
    replace B_r := B_r.below u_w2'
    have S_w2' := u_w2'.size
    have V_w2' : Below w.heap.size w w2' := V_w1'.trans (u_w2'.mono V_w1'.size)
    clear V_w1'
    clear u_w2'
    have Q_o1 := Lib.hid o1.feet
    have e_r := B_r.all3
    have f_r := B_r.frz3
    go_wp2_with fail
    clear e_r f_r
    have LL := Lib.hid (show bA < w.heap.size ∧ bT < w.heap.size ∧ bI < w.heap.size ∧ bK < w.heap.size from ⟨L_a.out, L_t.out, L_i.out, L_k.out⟩)
    clear B_a
    clear B_t
    clear B_i
    clear B_k
    refine Exists.elim (B_r.row3 (.int .i64 fr) (.int .i64 st) (.slice b n d)) (fun w3' q => ?_)
    rw [q.1]; replace B_r := q.2.1; have G := q.2.2; clear q
    have V_w3' := (V_w2').trans (G.below (V_w2').size (fun q hq => by have := (V_w2').size; simp at hq; omega))
    replace B_m := B_m.only G (by first | (simp; done) | (simp; omega))
    replace o1 := o1.only G (fun q hq hq' => by have := Q_o1.out q hq; simp at hq'; omega)
    have sG0 := G.size
    clear G
    clear V_w2'
    have S_w3' : w2'.heap.size + 0 ≤ w3'.heap.size := by omega
    clear sG0
    have e_r := B_r.all3
    exact bodyPost_ret (v := .agg #[.int .i64 fr, .int .i64 st, .slice b n d]) (by simp [results, Tryd.results85, go_sem, e_r]) rfl ⟨b, n, d, rfl, o1.ints, V_w3'⟩
  · rw [if_neg hj]
    dsimp only
    have LH := Lib.hid h
    have B_t := hT
    have d1 : ((j == at_) : Bool) = false := by simpa using hj
    clear h hA hT hI hK hi hl hs hk hk2 hp hp2 hj
    have L_t := B_t.lt
    go_enter Tryd.func85, Tryd.ntmps85
    go_upto_region 1 with fail
    refine Exists.elim (Blk.new_ w (b := w.heap.size) rfl 44 #[.int .i64 fr, .int .i64 st, .slice p n c]) (fun w1_a0' q => ?_)
    rw [q.1]; have B_m := q.2.1; have s_w1_a0' := q.2.2.1; have u_w1_a0' := q.2.2.2; clear q
    refine Exists.elim (Blk.new_ w1_a0' (b := w.heap.size + 1) s_w1_a0' 44 #[.int .i64 0, .int .i64 0, .slice none 0 0]) (fun w1' q => ?_)
    rw [q.1]; have B_r := q.2.1; have s_w1' := q.2.2.1; have u_w1' := q.2.2.2; clear q
    replace B_m := (B_m.below u_w1')
    have U := (u_w1_a0'.trans (u_w1'.mono u_w1_a0'.size))
    replace B_t := B_t.below U
    have S_w1' : w.heap.size + 2 ≤ w1'.heap.size := Nat.le_of_eq s_w1'.symm
    have V_w1' := (Below.refl w.heap.size w).trans (U.mono ((Below.refl w.heap.size w)).size)
    clear u_w1_a0' u_w1' s_w1_a0' s_w1' U
    have e_t_0 := B_t.a1_0
    have e_m := B_m.all3
    have e_r := B_r.all3
    have f_r := B_r.frz3
    go_wp2_with fail
    clear e_t_0 e_m e_r f_r
    clear B_t
    refine Exists.elim (B_r.row3 (.int .i64 fr) (.int .i64 st) (.slice p n c)) (fun w2' q => ?_)
    rw [q.1]; replace B_r := q.2.1; have G := q.2.2; clear q
    have V_w2' := (V_w1').trans (G.below (V_w1').size (fun q hq => by have := (V_w1').size; simp at hq; omega))
    replace B_m := B_m.only G (by first | (simp; done) | (simp; omega))
    have sG0 := G.size
    clear G
    clear V_w1'
    have S_w2' : w1'.heap.size + 0 ≤ w2'.heap.size := by omega
    clear sG0
    have e_r := B_r.all3
    exact bodyPost_ret (v := .agg #[.int .i64 fr, .int .i64 st, .slice p n c]) (by simp [results, Tryd.results85, go_sem, e_r]) rfl ⟨p, n, c, rfl, LH.out.below V_w2', V_w2'⟩
theorem rbRun_any (a : Pl) (x : PlX) (b : Pl) (z : PlX) (at_ i k : Int) (bT bA bI bK : Nat) (w : World) (h : PlR w x a.shares a.keys a.heard) (h' : PlR w z b.shares b.keys b.heard) (hT : Tbl w) (hb : rbB a b at_ i k = true)
    (h1 : Blk w bA 31 #[.int .i64 a.P, .int .i64 a.party, .int .i64 a.input, .int .i64 a.mask, .int .i64 a.delta, .slice x.sa x.sn x.sc, .slice x.ka x.kn x.kc, .int .i64 a.step, .slice x.ha x.hn x.hc, .int .i64 a.status, .int .i64 a.out]) (h2 : Blk w bT 3 #[.int .i64 at_]) (h3 : Blk w bI 3 #[.int .i64 i]) (h4 : Blk w bK 3 #[.int .i64 k]) :
    Calls Tryd.prog 84 #[.agg #[.int .i64 a.P, .int .i64 a.party, .int .i64 a.input, .int .i64 a.mask, .int .i64 a.delta, .slice x.sa x.sn x.sc, .slice x.ka x.kn x.kc, .int .i64 a.step, .slice x.ha x.hn x.hc, .int .i64 a.status, .int .i64 a.out], .agg #[.int .i64 b.P, .int .i64 b.party, .int .i64 b.input, .int .i64 b.mask, .int .i64 b.delta, .slice z.sa z.sn z.sc, .slice z.ka z.kn z.kc, .int .i64 b.step, .slice z.ha z.hn z.hc, .int .i64 b.status, .int .i64 b.out], .func (.func 85) #[] #[.pointer (some ⟨bT, 0, none⟩), .pointer (some ⟨bA, 0, none⟩), .pointer (some ⟨bI, 0, none⟩), .pointer (some ⟨bK, 0, none⟩)]] w fun e w' => ∃ y F y' F' p n c G, e = .returned (.tuple #[.agg #[.int .i64 (runP (chgP a.P at_ i.toNat k) 3 a b []).1.P, .int .i64 (runP (chgP a.P at_ i.toNat k) 3 a b []).1.party, .int .i64 (runP (chgP a.P at_ i.toNat k) 3 a b []).1.input, .int .i64 (runP (chgP a.P at_ i.toNat k) 3 a b []).1.mask, .int .i64 (runP (chgP a.P at_ i.toNat k) 3 a b []).1.delta, .slice y.sa y.sn y.sc, .slice y.ka y.kn y.kc, .int .i64 (runP (chgP a.P at_ i.toNat k) 3 a b []).1.step, .slice y.ha y.hn y.hc, .int .i64 (runP (chgP a.P at_ i.toNat k) 3 a b []).1.status, .int .i64 (runP (chgP a.P at_ i.toNat k) 3 a b []).1.out], .agg #[.int .i64 (runP (chgP a.P at_ i.toNat k) 3 a b []).2.1.P, .int .i64 (runP (chgP a.P at_ i.toNat k) 3 a b []).2.1.party, .int .i64 (runP (chgP a.P at_ i.toNat k) 3 a b []).2.1.input, .int .i64 (runP (chgP a.P at_ i.toNat k) 3 a b []).2.1.mask, .int .i64 (runP (chgP a.P at_ i.toNat k) 3 a b []).2.1.delta, .slice y'.sa y'.sn y'.sc, .slice y'.ka y'.kn y'.kc, .int .i64 (runP (chgP a.P at_ i.toNat k) 3 a b []).2.1.step, .slice y'.ha y'.hn y'.hc, .int .i64 (runP (chgP a.P at_ i.toNat k) 3 a b []).2.1.status, .int .i64 (runP (chgP a.P at_ i.toNat k) 3 a b []).2.1.out], .slice p n c]) ∧ PlO w' w.heap.size y (runP (chgP a.P at_ i.toNat k) 3 a b []).1.shares (runP (chgP a.P at_ i.toNat k) 3 a b []).1.keys (runP (chgP a.P at_ i.toNat k) 3 a b []).1.heard F ∧ PlO w' w.heap.size y' (runP (chgP a.P at_ i.toNat k) 3 a b []).2.1.shares (runP (chgP a.P at_ i.toNat k) 3 a b []).2.1.keys (runP (chgP a.P at_ i.toNat k) 3 a b []).2.1.heard F' ∧ MsO w' w.heap.size p n c (runP (chgP a.P at_ i.toNat k) 3 a b []).2.2 G ∧ Disj F F' ∧ Disj F G ∧ Disj F' G ∧ Below w.heap.size w w' := by
  obtain ⟨g1, g2, g3, g4⟩ := rbB_parts hb
  obtain ⟨t1, t2, t3, t4, t5, t6, t7, t8, t9⟩ := twoB_parts g1
  have hN := PlN.of t1
  have hn1 := hN.p1
  have hn2 := hN.p2
  have hi : ((i.toNat : Nat) : Int) = i := by omega
  rw [← hi] at h3
  refine (runPlayers_any 85 rb1_enters #[.pointer (some ⟨bT, 0, none⟩), .pointer (some ⟨bA, 0, none⟩), .pointer (some ⟨bI, 0, none⟩), .pointer (some ⟨bK, 0, none⟩)] (chgP a.P at_ i.toNat k) a b x z w h h' hT (two_runS g1) t3 [] (fun W T => (Blk W bA 31 #[.int .i64 a.P, .int .i64 a.party, .int .i64 a.input, .int .i64 a.mask, .int .i64 a.delta, .slice x.sa x.sn x.sc, .slice x.ka x.kn x.kc, .int .i64 a.step, .slice x.ha x.hn x.hc, .int .i64 a.status, .int .i64 a.out] ∧ Blk W bT 3 #[.int .i64 at_] ∧ Blk W bI 3 #[.int .i64 (i.toNat : Nat)] ∧ Blk W bK 3 #[.int .i64 k]) ∧ T = [bA, bT, bI, bK]) [bA, bT, bI, bK] (fun q hq => by cases hq)
    (fun q hq => by simp at hq; rcases hq with rfl | rfl | rfl | rfl <;> first | exact h1.lt | exact h2.lt | exact h3.lt | exact h4.lt) ⟨⟨h1, h2, h3, h4⟩, rfl⟩ (fun W W' T X hI ho hd _ => ?_) (fun W T hI hTs j fr st p n c l hj0 hj5 hl hll hlv _ => ?_)).mono (fun e W3 hh => ?_)
  · obtain ⟨⟨q1, q2, q3, q4⟩, rfl⟩ := hI
    exact ⟨⟨q1.only ho (hd _ (by simp)), q2.only ho (hd _ (by simp)), q3.only ho (hd _ (by simp)), q4.only ho (hd _ (by simp))⟩, rfl⟩
  · obtain ⟨⟨q1, q2, q3, q4⟩, rfl⟩ := hI
    have hn := hl.len
    have hbl := (blen_bd (j / 2).toNat).2
    refine (rb1_any a x at_ k i.toNat bT bA bI bK j fr st p n c l W q1 q2 q3 q4 hl (by omega) (by omega) hlv (by omega) (fun e => by subst e; omega) (by omega) (by omega)).mono (fun e W3 hh => ?_)
    obtain ⟨p', n', c', e1, e2, e3⟩ := hh
    exact ⟨p', n', c', e1, e2, Only.of_below e3, [bA, bT, bI, bK], ⟨⟨q1.below e3, q2.below e3, q3.below e3, q4.below e3⟩, rfl⟩, fun q hq => ⟨Nat.lt_of_lt_of_le (hTs q hq) e3.size, Or.inl hq⟩⟩
  · obtain ⟨y1, F1, y2, F2, p, n, c, G, k1, k3, k4, k5, k6, k7, k8, k9, _⟩ := hh
    exact ⟨y1, F1, y2, F2, p, n, c, G, k1, k3, k4, k5, k6, k7, k8, k9.below (Nat.le_refl _) (fun q hq => by cases hq)⟩
set_option maxHeartbeats 16000000 in
set_option maxRecDepth 100000 in
theorem RunBent_any (a : Pl) (x : PlX) (b : Pl) (z : PlX) (at_ i k : Int) (w : World) (h : PlR w x a.shares a.keys a.heard) (h' : PlR w z b.shares b.keys b.heard) (hT : Tbl w) :
    Calls Tryd.prog 34 #[.agg #[.int .i64 a.P, .int .i64 a.party, .int .i64 a.input, .int .i64 a.mask, .int .i64 a.delta, .slice x.sa x.sn x.sc, .slice x.ka x.kn x.kc, .int .i64 a.step, .slice x.ha x.hn x.hc, .int .i64 a.status, .int .i64 a.out], .agg #[.int .i64 b.P, .int .i64 b.party, .int .i64 b.input, .int .i64 b.mask, .int .i64 b.delta, .slice z.sa z.sn z.sc, .slice z.ka z.kn z.kc, .int .i64 b.step, .slice z.ha z.hn z.hc, .int .i64 b.status, .int .i64 b.out], .int .i64 at_, .int .i64 i, .int .i64 k] w fun e w' => ∃ y F y' F', e = .returned (.tuple #[.agg #[.int .i64 (rbR a b at_ i k).1.P, .int .i64 (rbR a b at_ i k).1.party, .int .i64 (rbR a b at_ i k).1.input, .int .i64 (rbR a b at_ i k).1.mask, .int .i64 (rbR a b at_ i k).1.delta, .slice y.sa y.sn y.sc, .slice y.ka y.kn y.kc, .int .i64 (rbR a b at_ i k).1.step, .slice y.ha y.hn y.hc, .int .i64 (rbR a b at_ i k).1.status, .int .i64 (rbR a b at_ i k).1.out], .agg #[.int .i64 (rbR a b at_ i k).2.P, .int .i64 (rbR a b at_ i k).2.party, .int .i64 (rbR a b at_ i k).2.input, .int .i64 (rbR a b at_ i k).2.mask, .int .i64 (rbR a b at_ i k).2.delta, .slice y'.sa y'.sn y'.sc, .slice y'.ka y'.kn y'.kc, .int .i64 (rbR a b at_ i k).2.step, .slice y'.ha y'.hn y'.hc, .int .i64 (rbR a b at_ i k).2.status, .int .i64 (rbR a b at_ i k).2.out], .bool (rbB a b at_ i k)]) ∧ PlO w' w.heap.size y (rbR a b at_ i k).1.shares (rbR a b at_ i k).1.keys (rbR a b at_ i k).1.heard F ∧ PlO w' w.heap.size y' (rbR a b at_ i k).2.shares (rbR a b at_ i k).2.keys (rbR a b at_ i k).2.heard F' ∧ Disj F F' ∧ Below w.heap.size w w' := by
  have CT := fun (W : World) (h2 : PlR W x a.shares a.keys a.heard) (k2 : PlR W z b.shares b.keys b.heard) (hT2 : Tbl W) => areTwo_any a x b z W h2 k2 hT2
  have hP := fun (hb : twoB a b = true) => (show 2 ≤ a.P ∧ a.P ≤ 251 from ⟨(PlN.of (twoB_parts hb).1).p1, (PlN.of (twoB_parts hb).1).p2⟩)
  have CR := fun (hb : rbB a b at_ i k = true) (bT bA bI bK : Nat) (W : World) (h2 : PlR W x a.shares a.keys a.heard) (k2 : PlR W z b.shares b.keys b.heard) (hT2 : Tbl W) => rbRun_any a x b z at_ i k bT bA bI bK W h2 k2 hT2 hb
  have CE := fun (hb : twoB a b = true) (W : World) => isElement_any a.P k W
  have HE : twoB a b = true → elB a.P k = inB k 0 (a.P - 1) := fun hb => by have := (PlN.of (twoB_parts hb).1).pr; unfold elB inB; rw [this]; rfl
  have CE := fun (hb : twoB a b = true) (W : World) => (by have q := isElement_any a.P k W; rw [HE hb] at q; exact q : Calls Tryd.prog 74 #[.int .i64 a.P, .int .i64 k] W fun e w' => e = .returned (.bool (inB k 0 (a.P - 1))) ∧ ∃ m, w' = W.drewN m)
  have CW1 := fun (W : World) => within_any at_ 0 5 W
  have CW2 := fun (W : World) => within_any i 0 ((blen (at_ / 2).toNat : Int) - 1) W
  clear HE
  have F1 : inB at_ 0 5 = true → at_.tdiv 2 = ((at_ / 2).toNat : Int) ∧ (at_ / 2).toNat < 3 := fun hb => by
    have := inB_true hb
    exact ⟨tdiv_two (by omega), by omega⟩
  have hbl := blen_bd (at_ / 2).toNat
  have HT := fun (h3 : (at_ / 2).toNat < 3) => hT.at (at_ / 2).toNat h3
  unfold rbR
  unfold rbB at CR ⊢
  generalize runP (chgP a.P at_ i.toNat k) 3 a b [] = RR at *
  obtain ⟨s, t, D⟩ := RR
  generalize twoB a b = b1 at *
  generalize inB at_ 0 5 = b2 at *
  generalize inB k 0 (a.P - 1) = b3 at *
  generalize inB i 0 ((blen (at_ / 2).toNat : Int) - 1) = b4 at *
  generalize (at_ / 2).toNat = q at *
  generalize blen q = L at *
  dsimp only at CR
  have tL : IntKind.i64.wrap ((L : Int) - 1) = (L : Int) - 1 := IntWalk.i64_in _ (by omega)
  have tq : q < 3 → IntKind.i64.wrap (q : Int) = (q : Int) := fun h3 => IntWalk.i64_in _ (by omega)
  replace CT := Lib.hid CT
  replace CR := Lib.hid CR
  replace CE := Lib.hid CE
  replace CW1 := Lib.hid CW1
  replace CW2 := Lib.hid CW2
  replace F1 := Lib.hid F1
  replace hP := Lib.hid hP
  replace HT := Lib.hid HT
  replace tq := Lib.hid tq
  replace tL := Lib.hid tL
  have LX := Lib.hid hT
  have LA := Lib.hid h
  have LB := Lib.hid h'
  clear hT h h' hbl
  go_enter Tryd.func34, Tryd.ntmps34
  go_upto_region 1 with fail
  refine Exists.elim (Blk.new_ w (b := w.heap.size) rfl 31 #[.int .i64 a.P, .int .i64 a.party, .int .i64 a.input, .int .i64 a.mask, .int .i64 a.delta, .slice x.sa x.sn x.sc, .slice x.ka x.kn x.kc, .int .i64 a.step, .slice x.ha x.hn x.hc, .int .i64 a.status, .int .i64 a.out]) (fun w1_a0' q => ?_)
  rw [q.1]; have B_a := q.2.1; have s_w1_a0' := q.2.2.1; have u_w1_a0' := q.2.2.2; clear q
  refine Exists.elim (Blk.new_ w1_a0' (b := w.heap.size + 1) s_w1_a0' 31 #[.int .i64 b.P, .int .i64 b.party, .int .i64 b.input, .int .i64 b.mask, .int .i64 b.delta, .slice z.sa z.sn z.sc, .slice z.ka z.kn z.kc, .int .i64 b.step, .slice z.ha z.hn z.hc, .int .i64 b.status, .int .i64 b.out]) (fun w1_a1' q => ?_)
  rw [q.1]; have B_b := q.2.1; have s_w1_a1' := q.2.2.1; have u_w1_a1' := q.2.2.2; clear q
  refine Exists.elim (Blk.new_ w1_a1' (b := w.heap.size + 2) s_w1_a1' 3 #[.int .i64 at_]) (fun w1_a2' q => ?_)
  rw [q.1]; have B_t := q.2.1; have s_w1_a2' := q.2.2.1; have u_w1_a2' := q.2.2.2; clear q
  refine Exists.elim (Blk.new_ w1_a2' (b := w.heap.size + 3) s_w1_a2' 3 #[.int .i64 i]) (fun w1_a3' q => ?_)
  rw [q.1]; have B_i := q.2.1; have s_w1_a3' := q.2.2.1; have u_w1_a3' := q.2.2.2; clear q
  refine Exists.elim (Blk.new_ w1_a3' (b := w.heap.size + 4) s_w1_a3' 3 #[.int .i64 k]) (fun w1_a4' q => ?_)
  rw [q.1]; have B_k := q.2.1; have s_w1_a4' := q.2.2.1; have u_w1_a4' := q.2.2.2; clear q
  refine Exists.elim (Blk.new_ w1_a4' (b := w.heap.size + 5) s_w1_a4' 31 #[.int .i64 0, .int .i64 0, .int .i64 0, .int .i64 0, .int .i64 0, .slice none 0 0, .slice none 0 0, .int .i64 0, .slice none 0 0, .int .i64 0, .int .i64 0]) (fun w1_a5' q => ?_)
  rw [q.1]; have B_r := q.2.1; have s_w1_a5' := q.2.2.1; have u_w1_a5' := q.2.2.2; clear q
  refine Exists.elim (Blk.new_ w1_a5' (b := w.heap.size + 6) s_w1_a5' 31 #[.int .i64 0, .int .i64 0, .int .i64 0, .int .i64 0, .int .i64 0, .slice none 0 0, .slice none 0 0, .int .i64 0, .slice none 0 0, .int .i64 0, .int .i64 0]) (fun w1' q => ?_)
  rw [q.1]; have B_q := q.2.1; have s_w1' := q.2.2.1; have u_w1' := q.2.2.2; clear q
  replace B_a := ((((((B_a.below u_w1_a1').below u_w1_a2').below u_w1_a3').below u_w1_a4').below u_w1_a5').below u_w1')
  replace B_b := (((((B_b.below u_w1_a2').below u_w1_a3').below u_w1_a4').below u_w1_a5').below u_w1')
  replace B_t := ((((B_t.below u_w1_a3').below u_w1_a4').below u_w1_a5').below u_w1')
  replace B_i := (((B_i.below u_w1_a4').below u_w1_a5').below u_w1')
  replace B_k := ((B_k.below u_w1_a5').below u_w1')
  replace B_r := (B_r.below u_w1')
  have U := (u_w1_a0'.trans ((u_w1_a1'.trans ((u_w1_a2'.trans ((u_w1_a3'.trans ((u_w1_a4'.trans ((u_w1_a5'.trans (u_w1'.mono u_w1_a5'.size)).mono u_w1_a4'.size)).mono u_w1_a3'.size)).mono u_w1_a2'.size)).mono u_w1_a1'.size)).mono u_w1_a0'.size))
  have S_w1' : w.heap.size + 7 ≤ w1'.heap.size := Nat.le_of_eq s_w1'.symm
  have V_w1' := (Below.refl w.heap.size w).trans (U.mono ((Below.refl w.heap.size w)).size)
  clear u_w1_a0' u_w1_a1' u_w1_a2' u_w1_a3' u_w1_a4' u_w1_a5' u_w1' s_w1_a0' s_w1_a1' s_w1_a2' s_w1_a3' s_w1_a4' s_w1_a5' s_w1' U
  try rw [show w.heap.size + 1 + 1 + 1 + 1 + 1 + 1 = w.heap.size + 6 from rfl]
  try rw [show w.heap.size + 1 + 1 + 1 + 1 + 1 = w.heap.size + 5 from rfl]
  try rw [show w.heap.size + 1 + 1 + 1 + 1 = w.heap.size + 4 from rfl]
  try rw [show w.heap.size + 1 + 1 + 1 = w.heap.size + 3 from rfl]
  try rw [show w.heap.size + 1 + 1 = w.heap.size + 2 from rfl]
  cases b1
  · skip
    refine wp_region_noPanic ?_
    refine wp_region_held_drew (S := (fun W => Blk W (w.heap.size) 31 #[.int .i64 a.P, .int .i64 a.party, .int .i64 a.input, .int .i64 a.mask, .int .i64 a.delta, .slice x.sa x.sn x.sc, .slice x.ka x.kn x.kc, .int .i64 a.step, .slice x.ha x.hn x.hc, .int .i64 a.status, .int .i64 a.out] ∧ Blk W (w.heap.size + 1) 31 #[.int .i64 b.P, .int .i64 b.party, .int .i64 b.input, .int .i64 b.mask, .int .i64 b.delta, .slice z.sa z.sn z.sc, .slice z.ka z.kn z.kc, .int .i64 b.step, .slice z.ha z.hn z.hc, .int .i64 b.status, .int .i64 b.out] ∧ Blk W (w.heap.size + 2) 3 #[.int .i64 at_] ∧ Blk W (w.heap.size + 3) 3 #[.int .i64 i] ∧ Blk W (w.heap.size + 4) 3 #[.int .i64 k])) (by kernel_rfl) ?hS1 (fun hHeld => ?go1)
    case hS1 => exact ⟨B_a.drew, B_b.drew, B_t.drew, B_i.drew, B_k.drew⟩
    refine tk (i := 0) (oi := ⟨some 16, _, _, _, _, _⟩) (v := ?v0_2) hHeld rfl ?y0_2 ?r0_2
    case y0_2 => (intro w hSw; obtain ⟨qS0, qS1, qS2, qS3, qS4⟩ := hSw; have cS0 := qS0.all11; have cS1 := qS1.all11; have cS2_0 := qS2.cell 0; have cS3_0 := qS3.cell 0; have cS4_0 := qS4.cell 0; first | (go_simp; first | done | with_reducible rfl) | with_reducible rfl)
    (try simp only [pt_])
    refine tk (i := 1) (oi := ⟨some 17, _, _, _, _, _⟩) (v := ?v1_3) hHeld rfl ?y1_3 ?r1_3
    case y1_3 => (intro w hSw; obtain ⟨qS0, qS1, qS2, qS3, qS4⟩ := hSw; have cS0 := qS0.all11; have cS1 := qS1.all11; have cS2_0 := qS2.cell 0; have cS3_0 := qS3.cell 0; have cS4_0 := qS4.cell 0; first | (go_simp; first | done | with_reducible rfl) | with_reducible rfl)
    (try simp only [pt_])
    refine wpAnyH_ready (rs := [2]) (by kernel_rfl) (by simp) ?_
    refine AllReadyH.cons (o := ⟨some 18, _, _, _, _, _⟩) rfl (fun K hK => ?_) ?_
    go_simp
    refine (CT.out _ (LA.out.below (V_w1'.drew)) (LB.out.below (V_w1'.drew)) (LX.out.below (V_w1'.drew))).mono ?_
    rintro e wl ⟨rfl, ul⟩
    have K_a_ul := Blk.below B_a.drew ul
    have K_b_ul := Blk.below B_b.drew ul
    have K_t_ul := Blk.below B_t.drew ul
    have K_i_ul := Blk.below B_i.drew ul
    have K_k_ul := Blk.below B_k.drew ul
    refine hK.out _ _ ?_ (fun hHeld => ?_)
    · exact ⟨K_a_ul, K_b_ul, K_t_ul, K_i_ul, K_k_ul⟩
    clear hK K
    (try simp only [pt_])
    refine tk (i := 3) (oi := ⟨some 19, _, _, _, _, _⟩) (v := ?v3_4) hHeld rfl ?y3_4 ?r3_4
    case y3_4 => (intro w _; first | (go_simp; first | done | with_reducible rfl) | with_reducible rfl)
    (try simp only [pt_])
    refine tk (i := 4) (oi := ⟨some 20, _, _, _, _, _⟩) (v := ?v4_5) hHeld rfl ?y4_5 ?r4_5
    case y4_5 => (intro w _; first | (go_simp; first | done | with_reducible rfl) | with_reducible rfl)
    (try simp only [pt_])
    refine tko (i := 5) (oi := ⟨some 21, _, _, _, _, _⟩) hHeld rfl ?r5_6
    (try simp only [pt_])
    refine tko (i := 6) (oi := ⟨some 22, _, _, _, _, _⟩) hHeld rfl ?r6_7
    (try simp only [pt_])
    refine tko (i := 7) (oi := ⟨some 23, _, _, _, _, _⟩) hHeld rfl ?r7_8
    (try simp only [pt_])
    refine tk (i := 8) (oi := ⟨some 24, _, _, _, _, _⟩) (v := ?v8_9) hHeld rfl ?y8_9 ?r8_9
    case y8_9 => (intro w _; first | (go_simp; first | done | with_reducible rfl) | with_reducible rfl)
    (try simp only [pt_])
    refine tk (i := 9) (oi := ⟨some 25, _, _, _, _, _⟩) (v := ?v9_10) hHeld rfl ?y9_10 ?r9_10
    case y9_10 => (intro w _; first | (go_simp; first | done | with_reducible rfl) | with_reducible rfl)
    (try simp only [pt_])
    refine tko (i := 10) (oi := ⟨some 26, _, _, _, _, _⟩) hHeld rfl ?r10_11
    (try simp only [pt_])
    refine tko (i := 11) (oi := ⟨some 27, _, _, _, _, _⟩) hHeld rfl ?r11_12
    (try simp only [pt_])
    refine tko (i := 12) (oi := ⟨some 28, _, _, _, _, _⟩) hHeld rfl ?r12_13
    (try simp only [pt_])
    refine tko (i := 13) (oi := ⟨some 29, _, _, _, _, _⟩) hHeld rfl ?r13_14
    (try simp only [pt_])
    refine tko (i := 14) (oi := ⟨some 30, _, _, _, _, _⟩) hHeld rfl ?r14_15
    (try simp only [pt_])
    refine tk (i := 15) (oi := ⟨some 31, _, _, _, _, _⟩) (v := ?v15_16) hHeld rfl ?y15_16 ?r15_16
    case y15_16 => (intro w _; first | (go_simp; first | done | with_reducible rfl) | with_reducible rfl)
    (try simp only [pt_])
    refine tk (i := 16) (oi := ⟨some 32, _, _, _, _, _⟩) (v := ?v16_17) hHeld rfl ?y16_17 ?r16_17
    case y16_17 => (intro w _; first | (go_simp; first | done | with_reducible rfl) | with_reducible rfl)
    (try simp only [pt_])
    refine tko (i := 17) (oi := ⟨some 33, _, _, _, _, _⟩) hHeld rfl ?r17_18
    (try simp only [pt_])
    refine tko (i := 18) (oi := ⟨some 34, _, _, _, _, _⟩) hHeld rfl ?r18_19
    (try simp only [pt_])
    refine tko (i := 19) (oi := ⟨some 35, _, _, _, _, _⟩) hHeld rfl ?r19_20
    (try simp only [pt_])
    refine tko (i := 20) (oi := ⟨some 36, _, _, _, _, _⟩) hHeld rfl ?r20_21
    (try simp only [pt_])
    refine tko (i := 21) (oi := ⟨some 37, _, _, _, _, _⟩) hHeld rfl ?r21_22
    (try simp only [pt_])
    refine tko (i := 22) (oi := ⟨some 38, _, _, _, _, _⟩) hHeld rfl ?r22_23
    (try simp only [pt_])
    refine tko (i := 23) (oi := ⟨some 39, _, _, _, _, _⟩) hHeld rfl ?r23_24
    (try simp only [pt_])
    refine tko (i := 24) (oi := ⟨some 40, _, _, _, _, _⟩) hHeld rfl ?r24_25
    (try simp only [pt_])
    refine tk (i := 25) (oi := ⟨some 41, _, _, _, _, _⟩) (v := ?v25_26) hHeld rfl ?y25_26 ?r25_26
    case y25_26 => (intro w _; first | (go_simp; first | done | with_reducible rfl) | with_reducible rfl)
    (try simp only [pt_])
    refine wpAnyH_done (by kernel_rfl) ?_ _
    refine NoPanic.normal ?_
    rotate_left 1
    exact AllReadyH.nil
    have u9 : Below w1'.heap.size w1' wl := (Below.refl _ _).drew.trans ul
    clear ul K_a_ul K_b_ul K_t_ul K_i_ul K_k_ul
    replace B_a := B_a.below u9
    replace B_b := B_b.below u9
    replace B_t := B_t.below u9
    replace B_i := B_i.below u9
    replace B_k := B_k.below u9
    replace B_r := B_r.below u9
    replace B_q := B_q.below u9
    have S_wl := u9.size
    have V_wl : Below w.heap.size w wl := V_w1'.trans (u9.mono V_w1'.size)
    clear V_w1'
    clear u9
    have e_r := B_r.all11
    have f_r := B_r.frz11
    have e_q := B_q.all11
    have f_q := B_q.frz11
    go_wp2_with fail
    clear e_r f_r e_q f_q
    refine Exists.elim (B_r.row11 (.int .i64 0) (.int .i64 0) (.int .i64 0) (.int .i64 0) (.int .i64 0) (.slice none 0 0) (.slice none 0 0) (.int .i64 0) (.slice none 0 0) (.int .i64 0) (.int .i64 0)) (fun w2_11' q => ?_)
    rw [q.1]; replace B_r := q.2.1; have G := q.2.2; clear q
    have V_w2'_0 := (V_wl).trans (G.below (V_wl).size (fun q hq => by have := (V_wl).size; simp at hq; omega))
    replace B_a := B_a.only G (by first | (simp; done) | (simp; omega))
    replace B_b := B_b.only G (by first | (simp; done) | (simp; omega))
    replace B_t := B_t.only G (by first | (simp; done) | (simp; omega))
    replace B_i := B_i.only G (by first | (simp; done) | (simp; omega))
    replace B_k := B_k.only G (by first | (simp; done) | (simp; omega))
    replace B_q := B_q.only G (by first | (simp; done) | (simp; omega))
    have sG0 := G.size
    clear G
    clear V_wl
    refine Exists.elim (B_q.row11 (.int .i64 0) (.int .i64 0) (.int .i64 0) (.int .i64 0) (.int .i64 0) (.slice none 0 0) (.slice none 0 0) (.int .i64 0) (.slice none 0 0) (.int .i64 0) (.int .i64 0)) (fun w2' q => ?_)
    rw [q.1]; replace B_q := q.2.1; have G := q.2.2; clear q
    have V_w2' := (V_w2'_0).trans (G.below (V_w2'_0).size (fun q hq => by have := (V_w2'_0).size; simp at hq; omega))
    replace B_a := B_a.only G (by first | (simp; done) | (simp; omega))
    replace B_b := B_b.only G (by first | (simp; done) | (simp; omega))
    replace B_t := B_t.only G (by first | (simp; done) | (simp; omega))
    replace B_i := B_i.only G (by first | (simp; done) | (simp; omega))
    replace B_k := B_k.only G (by first | (simp; done) | (simp; omega))
    replace B_r := B_r.only G (by first | (simp; done) | (simp; omega))
    have sG1 := G.size
    clear G
    clear V_w2'_0
    have S_w2' : wl.heap.size + 0 ≤ w2'.heap.size := by omega
    clear sG0 sG1
    have e_r := B_r.all11
    have e_q := B_q.all11
    exact bodyPost_ret (v := .tuple #[.agg #[.int .i64 0, .int .i64 0, .int .i64 0, .int .i64 0, .int .i64 0, .slice none 0 0, .slice none 0 0, .int .i64 0, .slice none 0 0, .int .i64 0, .int .i64 0], .agg #[.int .i64 0, .int .i64 0, .int .i64 0, .int .i64 0, .int .i64 0, .slice none 0 0, .slice none 0 0, .int .i64 0, .slice none 0 0, .int .i64 0, .int .i64 0], .bool false]) (by simp [results, Tryd.results34, go_sem, e_r, e_q]) rfl (by first | exact ⟨zeroX, [], zeroX, [], rfl, PlO.nil _ _, PlO.nil _ _, Disj.nil_l _, V_w2'⟩ | exact ⟨zeroX, zeroX, rfl, ⟨[], PlO.nil _ _⟩, [], PlO.nil _ _, Disj.nil_l _, V_w2'⟩ | exact ⟨zeroX, [], zeroX, rfl, PlO.nil _ _, [], PlO.nil _ _, Disj.nil_l _, V_w2'⟩)
  obtain ⟨hp1, hp2⟩ := hP.out rfl
  cases b2
  · skip
    refine wp_region_noPanic ?_
    refine wp_region_held_drew (S := (fun W => Blk W (w.heap.size) 31 #[.int .i64 a.P, .int .i64 a.party, .int .i64 a.input, .int .i64 a.mask, .int .i64 a.delta, .slice x.sa x.sn x.sc, .slice x.ka x.kn x.kc, .int .i64 a.step, .slice x.ha x.hn x.hc, .int .i64 a.status, .int .i64 a.out] ∧ Blk W (w.heap.size + 1) 31 #[.int .i64 b.P, .int .i64 b.party, .int .i64 b.input, .int .i64 b.mask, .int .i64 b.delta, .slice z.sa z.sn z.sc, .slice z.ka z.kn z.kc, .int .i64 b.step, .slice z.ha z.hn z.hc, .int .i64 b.status, .int .i64 b.out] ∧ Blk W (w.heap.size + 2) 3 #[.int .i64 at_] ∧ Blk W (w.heap.size + 3) 3 #[.int .i64 i] ∧ Blk W (w.heap.size + 4) 3 #[.int .i64 k])) (by kernel_rfl) ?hS27 (fun hHeld => ?go27)
    case hS27 => exact ⟨B_a.drew, B_b.drew, B_t.drew, B_i.drew, B_k.drew⟩
    refine tk (i := 0) (oi := ⟨some 16, _, _, _, _, _⟩) (v := ?v0_28) hHeld rfl ?y0_28 ?r0_28
    case y0_28 => (intro w hSw; obtain ⟨qS0, qS1, qS2, qS3, qS4⟩ := hSw; have cS0 := qS0.all11; have cS1 := qS1.all11; have cS2_0 := qS2.cell 0; have cS3_0 := qS3.cell 0; have cS4_0 := qS4.cell 0; first | (go_simp; first | done | with_reducible rfl) | with_reducible rfl)
    (try simp only [pt_])
    refine tk (i := 1) (oi := ⟨some 17, _, _, _, _, _⟩) (v := ?v1_29) hHeld rfl ?y1_29 ?r1_29
    case y1_29 => (intro w hSw; obtain ⟨qS0, qS1, qS2, qS3, qS4⟩ := hSw; have cS0 := qS0.all11; have cS1 := qS1.all11; have cS2_0 := qS2.cell 0; have cS3_0 := qS3.cell 0; have cS4_0 := qS4.cell 0; first | (go_simp; first | done | with_reducible rfl) | with_reducible rfl)
    (try simp only [pt_])
    refine wpAnyH_ready (rs := [2]) (by kernel_rfl) (by simp) ?_
    refine AllReadyH.cons (o := ⟨some 18, _, _, _, _, _⟩) rfl (fun K hK => ?_) ?_
    go_simp
    refine (CT.out _ (LA.out.below (V_w1'.drew)) (LB.out.below (V_w1'.drew)) (LX.out.below (V_w1'.drew))).mono ?_
    rintro e wl ⟨rfl, ul⟩
    have K_a_ul := Blk.below B_a.drew ul
    have K_b_ul := Blk.below B_b.drew ul
    have K_t_ul := Blk.below B_t.drew ul
    have K_i_ul := Blk.below B_i.drew ul
    have K_k_ul := Blk.below B_k.drew ul
    refine hK.out _ _ ?_ (fun hHeld => ?_)
    · exact ⟨K_a_ul, K_b_ul, K_t_ul, K_i_ul, K_k_ul⟩
    clear hK K
    (try simp only [pt_])
    refine tk (i := 3) (oi := ⟨some 19, _, _, _, _, _⟩) (v := ?v3_30) hHeld rfl ?y3_30 ?r3_30
    case y3_30 => (intro w _; first | (go_simp; first | done | with_reducible rfl) | with_reducible rfl)
    (try simp only [pt_])
    refine tk (i := 4) (oi := ⟨some 20, _, _, _, _, _⟩) (v := ?v4_31) hHeld rfl ?y4_31 ?r4_31
    case y4_31 => (intro w _; first | (go_simp; first | done | with_reducible rfl) | with_reducible rfl)
    (try simp only [pt_])
    refine tk (i := 5) (oi := ⟨some 21, _, _, _, _, _⟩) (v := ?v5_32) hHeld rfl ?y5_32 ?r5_32
    case y5_32 => (intro w hSw; obtain ⟨qS0, qS1, qS2, qS3, qS4⟩ := hSw; have cS0 := qS0.all11; have cS1 := qS1.all11; have cS2_0 := qS2.cell 0; have cS3_0 := qS3.cell 0; have cS4_0 := qS4.cell 0; first | (go_simp; first | done | with_reducible rfl) | with_reducible rfl)
    (try simp only [pt_])
    refine wpAnyH_ready (rs := [6]) (by kernel_rfl) (by simp) ?_
    refine AllReadyH.cons (o := ⟨some 22, _, _, _, _, _⟩) rfl (fun K hK => ?_) ?_
    go_simp
    refine (CW1.out _).mono ?_
    rintro e wy ⟨rfl, rfl⟩
    refine hK.out _ _ ?_ (fun hHeld => ?_)
    · exact ⟨K_a_ul, K_b_ul, K_t_ul, K_i_ul, K_k_ul⟩
    clear hK K
    (try simp only [pt_])
    refine tk (i := 7) (oi := ⟨some 23, _, _, _, _, _⟩) (v := ?v7_33) hHeld rfl ?y7_33 ?r7_33
    case y7_33 => (intro w _; first | (go_simp; first | done | with_reducible rfl) | with_reducible rfl)
    (try simp only [pt_])
    refine tk (i := 8) (oi := ⟨some 24, _, _, _, _, _⟩) (v := ?v8_34) hHeld rfl ?y8_34 ?r8_34
    case y8_34 => (intro w _; first | (go_simp; first | done | with_reducible rfl) | with_reducible rfl)
    (try simp only [pt_])
    refine tk (i := 9) (oi := ⟨some 25, _, _, _, _, _⟩) (v := ?v9_35) hHeld rfl ?y9_35 ?r9_35
    case y9_35 => (intro w _; first | (go_simp; first | done | with_reducible rfl) | with_reducible rfl)
    (try simp only [pt_])
    refine tko (i := 10) (oi := ⟨some 26, _, _, _, _, _⟩) hHeld rfl ?r10_36
    (try simp only [pt_])
    refine tko (i := 11) (oi := ⟨some 27, _, _, _, _, _⟩) hHeld rfl ?r11_37
    (try simp only [pt_])
    refine tko (i := 12) (oi := ⟨some 28, _, _, _, _, _⟩) hHeld rfl ?r12_38
    (try simp only [pt_])
    refine tko (i := 13) (oi := ⟨some 29, _, _, _, _, _⟩) hHeld rfl ?r13_39
    (try simp only [pt_])
    refine tko (i := 14) (oi := ⟨some 30, _, _, _, _, _⟩) hHeld rfl ?r14_40
    (try simp only [pt_])
    refine tk (i := 15) (oi := ⟨some 31, _, _, _, _, _⟩) (v := ?v15_41) hHeld rfl ?y15_41 ?r15_41
    case y15_41 => (intro w _; first | (go_simp; first | done | with_reducible rfl) | with_reducible rfl)
    (try simp only [pt_])
    refine tk (i := 16) (oi := ⟨some 32, _, _, _, _, _⟩) (v := ?v16_42) hHeld rfl ?y16_42 ?r16_42
    case y16_42 => (intro w _; first | (go_simp; first | done | with_reducible rfl) | with_reducible rfl)
    (try simp only [pt_])
    refine tko (i := 17) (oi := ⟨some 33, _, _, _, _, _⟩) hHeld rfl ?r17_43
    (try simp only [pt_])
    refine tko (i := 18) (oi := ⟨some 34, _, _, _, _, _⟩) hHeld rfl ?r18_44
    (try simp only [pt_])
    refine tko (i := 19) (oi := ⟨some 35, _, _, _, _, _⟩) hHeld rfl ?r19_45
    (try simp only [pt_])
    refine tko (i := 20) (oi := ⟨some 36, _, _, _, _, _⟩) hHeld rfl ?r20_46
    (try simp only [pt_])
    refine tko (i := 21) (oi := ⟨some 37, _, _, _, _, _⟩) hHeld rfl ?r21_47
    (try simp only [pt_])
    refine tko (i := 22) (oi := ⟨some 38, _, _, _, _, _⟩) hHeld rfl ?r22_48
    (try simp only [pt_])
    refine tko (i := 23) (oi := ⟨some 39, _, _, _, _, _⟩) hHeld rfl ?r23_49
    (try simp only [pt_])
    refine tko (i := 24) (oi := ⟨some 40, _, _, _, _, _⟩) hHeld rfl ?r24_50
    (try simp only [pt_])
    refine tk (i := 25) (oi := ⟨some 41, _, _, _, _, _⟩) (v := ?v25_51) hHeld rfl ?y25_51 ?r25_51
    case y25_51 => (intro w _; first | (go_simp; first | done | with_reducible rfl) | with_reducible rfl)
    (try simp only [pt_])
    refine wpAnyH_done (by kernel_rfl) ?_ _
    refine NoPanic.normal ?_
    rotate_left 1
    exact AllReadyH.nil
    exact AllReadyH.nil
    have u9 : Below w1'.heap.size w1' wl := (Below.refl _ _).drew.trans ul
    clear ul K_a_ul K_b_ul K_t_ul K_i_ul K_k_ul
    replace B_a := B_a.below u9
    replace B_b := B_b.below u9
    replace B_t := B_t.below u9
    replace B_i := B_i.below u9
    replace B_k := B_k.below u9
    replace B_r := B_r.below u9
    replace B_q := B_q.below u9
    have S_wl := u9.size
    have V_wl : Below w.heap.size w wl := V_w1'.trans (u9.mono V_w1'.size)
    clear V_w1'
    clear u9
    have e_r := B_r.all11
    have f_r := B_r.frz11
    have e_q := B_q.all11
    have f_q := B_q.frz11
    go_wp2_with fail
    clear e_r f_r e_q f_q
    refine Exists.elim (B_r.row11 (.int .i64 0) (.int .i64 0) (.int .i64 0) (.int .i64 0) (.int .i64 0) (.slice none 0 0) (.slice none 0 0) (.int .i64 0) (.slice none 0 0) (.int .i64 0) (.int .i64 0)) (fun w3_11' q => ?_)
    rw [q.1]; replace B_r := q.2.1; have G := q.2.2; clear q
    have V_w3'_0 := (V_wl).trans (G.below (V_wl).size (fun q hq => by have := (V_wl).size; simp at hq; omega))
    replace B_a := B_a.only G (by first | (simp; done) | (simp; omega))
    replace B_b := B_b.only G (by first | (simp; done) | (simp; omega))
    replace B_t := B_t.only G (by first | (simp; done) | (simp; omega))
    replace B_i := B_i.only G (by first | (simp; done) | (simp; omega))
    replace B_k := B_k.only G (by first | (simp; done) | (simp; omega))
    replace B_q := B_q.only G (by first | (simp; done) | (simp; omega))
    have sG0 := G.size
    clear G
    clear V_wl
    refine Exists.elim (B_q.row11 (.int .i64 0) (.int .i64 0) (.int .i64 0) (.int .i64 0) (.int .i64 0) (.slice none 0 0) (.slice none 0 0) (.int .i64 0) (.slice none 0 0) (.int .i64 0) (.int .i64 0)) (fun w3' q => ?_)
    rw [q.1]; replace B_q := q.2.1; have G := q.2.2; clear q
    have V_w3' := (V_w3'_0).trans (G.below (V_w3'_0).size (fun q hq => by have := (V_w3'_0).size; simp at hq; omega))
    replace B_a := B_a.only G (by first | (simp; done) | (simp; omega))
    replace B_b := B_b.only G (by first | (simp; done) | (simp; omega))
    replace B_t := B_t.only G (by first | (simp; done) | (simp; omega))
    replace B_i := B_i.only G (by first | (simp; done) | (simp; omega))
    replace B_k := B_k.only G (by first | (simp; done) | (simp; omega))
    replace B_r := B_r.only G (by first | (simp; done) | (simp; omega))
    have sG1 := G.size
    clear G
    clear V_w3'_0
    have S_w3' : wl.heap.size + 0 ≤ w3'.heap.size := by omega
    clear sG0 sG1
    have e_r := B_r.all11
    have e_q := B_q.all11
    exact bodyPost_ret (v := .tuple #[.agg #[.int .i64 0, .int .i64 0, .int .i64 0, .int .i64 0, .int .i64 0, .slice none 0 0, .slice none 0 0, .int .i64 0, .slice none 0 0, .int .i64 0, .int .i64 0], .agg #[.int .i64 0, .int .i64 0, .int .i64 0, .int .i64 0, .int .i64 0, .slice none 0 0, .slice none 0 0, .int .i64 0, .slice none 0 0, .int .i64 0, .int .i64 0], .bool false]) (by simp [results, Tryd.results34, go_sem, e_r, e_q]) rfl (by first | exact ⟨zeroX, [], zeroX, [], rfl, PlO.nil _ _, PlO.nil _ _, Disj.nil_l _, V_w3'⟩ | exact ⟨zeroX, zeroX, rfl, ⟨[], PlO.nil _ _⟩, [], PlO.nil _ _, Disj.nil_l _, V_w3'⟩ | exact ⟨zeroX, [], zeroX, rfl, PlO.nil _ _, [], PlO.nil _ _, Disj.nil_l _, V_w3'⟩)
  obtain ⟨hq1, hq2⟩ := F1.out rfl
  cases b3
  · skip
    refine wp_region_noPanic ?_
    refine wp_region_held_drew (S := (fun W => Blk W (w.heap.size) 31 #[.int .i64 a.P, .int .i64 a.party, .int .i64 a.input, .int .i64 a.mask, .int .i64 a.delta, .slice x.sa x.sn x.sc, .slice x.ka x.kn x.kc, .int .i64 a.step, .slice x.ha x.hn x.hc, .int .i64 a.status, .int .i64 a.out] ∧ Blk W (w.heap.size + 1) 31 #[.int .i64 b.P, .int .i64 b.party, .int .i64 b.input, .int .i64 b.mask, .int .i64 b.delta, .slice z.sa z.sn z.sc, .slice z.ka z.kn z.kc, .int .i64 b.step, .slice z.ha z.hn z.hc, .int .i64 b.status, .int .i64 b.out] ∧ Blk W (w.heap.size + 2) 3 #[.int .i64 at_] ∧ Blk W (w.heap.size + 3) 3 #[.int .i64 i] ∧ Blk W (w.heap.size + 4) 3 #[.int .i64 k])) (by kernel_rfl) ?hS52 (fun hHeld => ?go52)
    case hS52 => exact ⟨B_a.drew, B_b.drew, B_t.drew, B_i.drew, B_k.drew⟩
    refine tk (i := 0) (oi := ⟨some 16, _, _, _, _, _⟩) (v := ?v0_53) hHeld rfl ?y0_53 ?r0_53
    case y0_53 => (intro w hSw; obtain ⟨qS0, qS1, qS2, qS3, qS4⟩ := hSw; have cS0 := qS0.all11; have cS1 := qS1.all11; have cS2_0 := qS2.cell 0; have cS3_0 := qS3.cell 0; have cS4_0 := qS4.cell 0; first | (go_simp; first | done | with_reducible rfl) | with_reducible rfl)
    (try simp only [pt_])
    refine tk (i := 1) (oi := ⟨some 17, _, _, _, _, _⟩) (v := ?v1_54) hHeld rfl ?y1_54 ?r1_54
    case y1_54 => (intro w hSw; obtain ⟨qS0, qS1, qS2, qS3, qS4⟩ := hSw; have cS0 := qS0.all11; have cS1 := qS1.all11; have cS2_0 := qS2.cell 0; have cS3_0 := qS3.cell 0; have cS4_0 := qS4.cell 0; first | (go_simp; first | done | with_reducible rfl) | with_reducible rfl)
    (try simp only [pt_])
    refine wpAnyH_ready (rs := [2]) (by kernel_rfl) (by simp) ?_
    refine AllReadyH.cons (o := ⟨some 18, _, _, _, _, _⟩) rfl (fun K hK => ?_) ?_
    go_simp
    refine (CT.out _ (LA.out.below (V_w1'.drew)) (LB.out.below (V_w1'.drew)) (LX.out.below (V_w1'.drew))).mono ?_
    rintro e wl ⟨rfl, ul⟩
    have K_a_ul := Blk.below B_a.drew ul
    have K_b_ul := Blk.below B_b.drew ul
    have K_t_ul := Blk.below B_t.drew ul
    have K_i_ul := Blk.below B_i.drew ul
    have K_k_ul := Blk.below B_k.drew ul
    refine hK.out _ _ ?_ (fun hHeld => ?_)
    · exact ⟨K_a_ul, K_b_ul, K_t_ul, K_i_ul, K_k_ul⟩
    clear hK K
    (try simp only [pt_])
    refine tk (i := 3) (oi := ⟨some 19, _, _, _, _, _⟩) (v := ?v3_55) hHeld rfl ?y3_55 ?r3_55
    case y3_55 => (intro w _; first | (go_simp; first | done | with_reducible rfl) | with_reducible rfl)
    (try simp only [pt_])
    refine tk (i := 4) (oi := ⟨some 20, _, _, _, _, _⟩) (v := ?v4_56) hHeld rfl ?y4_56 ?r4_56
    case y4_56 => (intro w _; first | (go_simp; first | done | with_reducible rfl) | with_reducible rfl)
    (try simp only [pt_])
    refine tk (i := 5) (oi := ⟨some 21, _, _, _, _, _⟩) (v := ?v5_57) hHeld rfl ?y5_57 ?r5_57
    case y5_57 => (intro w hSw; obtain ⟨qS0, qS1, qS2, qS3, qS4⟩ := hSw; have cS0 := qS0.all11; have cS1 := qS1.all11; have cS2_0 := qS2.cell 0; have cS3_0 := qS3.cell 0; have cS4_0 := qS4.cell 0; first | (go_simp; first | done | with_reducible rfl) | with_reducible rfl)
    (try simp only [pt_])
    refine wpAnyH_ready (rs := [6]) (by kernel_rfl) (by simp) ?_
    refine AllReadyH.cons (o := ⟨some 22, _, _, _, _, _⟩) rfl (fun K hK => ?_) ?_
    go_simp
    refine (CW1.out _).mono ?_
    rintro e wy ⟨rfl, rfl⟩
    refine hK.out _ _ ?_ (fun hHeld => ?_)
    · exact ⟨K_a_ul, K_b_ul, K_t_ul, K_i_ul, K_k_ul⟩
    clear hK K
    (try simp only [pt_])
    refine tk (i := 7) (oi := ⟨some 23, _, _, _, _, _⟩) (v := ?v7_58) hHeld rfl ?y7_58 ?r7_58
    case y7_58 => (intro w _; first | (go_simp; first | done | with_reducible rfl) | with_reducible rfl)
    (try simp only [pt_])
    refine tk (i := 8) (oi := ⟨some 24, _, _, _, _, _⟩) (v := ?v8_59) hHeld rfl ?y8_59 ?r8_59
    case y8_59 => (intro w _; first | (go_simp; first | done | with_reducible rfl) | with_reducible rfl)
    (try simp only [pt_])
    refine tk (i := 9) (oi := ⟨some 25, _, _, _, _, _⟩) (v := ?v9_60) hHeld rfl ?y9_60 ?r9_60
    case y9_60 => (intro w _; first | (go_simp; first | done | with_reducible rfl) | with_reducible rfl)
    (try simp only [pt_])
    refine tk (i := 10) (oi := ⟨some 26, _, _, _, _, _⟩) (v := ?v10_61) hHeld rfl ?y10_61 ?r10_61
    case y10_61 => (intro w _; first | (go_simp; first | done | with_reducible rfl) | with_reducible rfl)
    (try simp only [pt_])
    refine tk (i := 11) (oi := ⟨some 27, _, _, _, _, _⟩) (v := ?v11_62) hHeld rfl ?y11_62 ?r11_62
    case y11_62 => (intro w hSw; obtain ⟨qS0, qS1, qS2, qS3, qS4⟩ := hSw; have cS0 := qS0.all11; have cS1 := qS1.all11; have cS2_0 := qS2.cell 0; have cS3_0 := qS3.cell 0; have cS4_0 := qS4.cell 0; first | (go_simp; first | done | with_reducible rfl) | with_reducible rfl)
    (try simp only [pt_])
    refine tk (i := 12) (oi := ⟨some 28, _, _, _, _, _⟩) (v := ?v12_63) hHeld rfl ?y12_63 ?r12_63
    case y12_63 => (intro w hSw; obtain ⟨qS0, qS1, qS2, qS3, qS4⟩ := hSw; have cS0 := qS0.all11; have cS1 := qS1.all11; have cS2_0 := qS2.cell 0; have cS3_0 := qS3.cell 0; have cS4_0 := qS4.cell 0; first | (go_simp; first | done | with_reducible rfl) | with_reducible rfl)
    (try simp only [pt_])
    refine wpAnyH_ready (rs := [13]) (by kernel_rfl) (by simp) ?_
    refine AllReadyH.cons (o := ⟨some 29, _, _, _, _, _⟩) rfl (fun K hK => ?_) ?_
    go_simp
    refine (CE.out rfl _).mono ?_
    rintro e wk ⟨rfl, qk⟩
    have uk := below_of_quiet qk
    clear qk
    have K_a_uk := Blk.below K_a_ul uk
    have K_b_uk := Blk.below K_b_ul uk
    have K_t_uk := Blk.below K_t_ul uk
    have K_i_uk := Blk.below K_i_ul uk
    have K_k_uk := Blk.below K_k_ul uk
    refine hK.out _ _ ?_ (fun hHeld => ?_)
    · exact ⟨K_a_uk, K_b_uk, K_t_uk, K_i_uk, K_k_uk⟩
    clear hK K
    (try simp only [pt_])
    refine tk (i := 14) (oi := ⟨some 30, _, _, _, _, _⟩) (v := ?v14_64) hHeld rfl ?y14_64 ?r14_64
    case y14_64 => (intro w _; first | (go_simp; first | done | with_reducible rfl) | with_reducible rfl)
    (try simp only [pt_])
    refine tk (i := 15) (oi := ⟨some 31, _, _, _, _, _⟩) (v := ?v15_65) hHeld rfl ?y15_65 ?r15_65
    case y15_65 => (intro w _; first | (go_simp; first | done | with_reducible rfl) | with_reducible rfl)
    (try simp only [pt_])
    refine tk (i := 16) (oi := ⟨some 32, _, _, _, _, _⟩) (v := ?v16_66) hHeld rfl ?y16_66 ?r16_66
    case y16_66 => (intro w _; first | (go_simp; first | done | with_reducible rfl) | with_reducible rfl)
    (try simp only [pt_])
    refine tko (i := 17) (oi := ⟨some 33, _, _, _, _, _⟩) hHeld rfl ?r17_67
    (try simp only [pt_])
    refine tko (i := 18) (oi := ⟨some 34, _, _, _, _, _⟩) hHeld rfl ?r18_68
    (try simp only [pt_])
    refine tko (i := 19) (oi := ⟨some 35, _, _, _, _, _⟩) hHeld rfl ?r19_69
    (try simp only [pt_])
    refine tko (i := 20) (oi := ⟨some 36, _, _, _, _, _⟩) hHeld rfl ?r20_70
    (try simp only [pt_])
    refine tko (i := 21) (oi := ⟨some 37, _, _, _, _, _⟩) hHeld rfl ?r21_71
    (try simp only [pt_])
    refine tko (i := 22) (oi := ⟨some 38, _, _, _, _, _⟩) hHeld rfl ?r22_72
    (try simp only [pt_])
    refine tko (i := 23) (oi := ⟨some 39, _, _, _, _, _⟩) hHeld rfl ?r23_73
    (try simp only [pt_])
    refine tko (i := 24) (oi := ⟨some 40, _, _, _, _, _⟩) hHeld rfl ?r24_74
    (try simp only [pt_])
    refine tk (i := 25) (oi := ⟨some 41, _, _, _, _, _⟩) (v := ?v25_75) hHeld rfl ?y25_75 ?r25_75
    case y25_75 => (intro w _; first | (go_simp; first | done | with_reducible rfl) | with_reducible rfl)
    (try simp only [pt_])
    refine wpAnyH_done (by kernel_rfl) ?_ _
    refine NoPanic.normal ?_
    rotate_left 1
    exact AllReadyH.nil
    exact AllReadyH.nil
    exact AllReadyH.nil
    have u9 : Below w1'.heap.size w1' wk := (Below.refl _ _).drew.trans (ul.trans (uk.mono ul.size))
    clear ul uk K_a_ul K_b_ul K_t_ul K_i_ul K_k_ul K_a_uk K_b_uk K_t_uk K_i_uk K_k_uk
    replace B_a := B_a.below u9
    replace B_b := B_b.below u9
    replace B_t := B_t.below u9
    replace B_i := B_i.below u9
    replace B_k := B_k.below u9
    replace B_r := B_r.below u9
    replace B_q := B_q.below u9
    have S_wk := u9.size
    have V_wk : Below w.heap.size w wk := V_w1'.trans (u9.mono V_w1'.size)
    clear V_w1'
    clear u9
    have e_r := B_r.all11
    have f_r := B_r.frz11
    have e_q := B_q.all11
    have f_q := B_q.frz11
    go_wp2_with fail
    clear e_r f_r e_q f_q
    refine Exists.elim (B_r.row11 (.int .i64 0) (.int .i64 0) (.int .i64 0) (.int .i64 0) (.int .i64 0) (.slice none 0 0) (.slice none 0 0) (.int .i64 0) (.slice none 0 0) (.int .i64 0) (.int .i64 0)) (fun w4_11' q => ?_)
    rw [q.1]; replace B_r := q.2.1; have G := q.2.2; clear q
    have V_w4'_0 := (V_wk).trans (G.below (V_wk).size (fun q hq => by have := (V_wk).size; simp at hq; omega))
    replace B_a := B_a.only G (by first | (simp; done) | (simp; omega))
    replace B_b := B_b.only G (by first | (simp; done) | (simp; omega))
    replace B_t := B_t.only G (by first | (simp; done) | (simp; omega))
    replace B_i := B_i.only G (by first | (simp; done) | (simp; omega))
    replace B_k := B_k.only G (by first | (simp; done) | (simp; omega))
    replace B_q := B_q.only G (by first | (simp; done) | (simp; omega))
    have sG0 := G.size
    clear G
    clear V_wk
    refine Exists.elim (B_q.row11 (.int .i64 0) (.int .i64 0) (.int .i64 0) (.int .i64 0) (.int .i64 0) (.slice none 0 0) (.slice none 0 0) (.int .i64 0) (.slice none 0 0) (.int .i64 0) (.int .i64 0)) (fun w4' q => ?_)
    rw [q.1]; replace B_q := q.2.1; have G := q.2.2; clear q
    have V_w4' := (V_w4'_0).trans (G.below (V_w4'_0).size (fun q hq => by have := (V_w4'_0).size; simp at hq; omega))
    replace B_a := B_a.only G (by first | (simp; done) | (simp; omega))
    replace B_b := B_b.only G (by first | (simp; done) | (simp; omega))
    replace B_t := B_t.only G (by first | (simp; done) | (simp; omega))
    replace B_i := B_i.only G (by first | (simp; done) | (simp; omega))
    replace B_k := B_k.only G (by first | (simp; done) | (simp; omega))
    replace B_r := B_r.only G (by first | (simp; done) | (simp; omega))
    have sG1 := G.size
    clear G
    clear V_w4'_0
    have S_w4' : wk.heap.size + 0 ≤ w4'.heap.size := by omega
    clear sG0 sG1
    have e_r := B_r.all11
    have e_q := B_q.all11
    exact bodyPost_ret (v := .tuple #[.agg #[.int .i64 0, .int .i64 0, .int .i64 0, .int .i64 0, .int .i64 0, .slice none 0 0, .slice none 0 0, .int .i64 0, .slice none 0 0, .int .i64 0, .int .i64 0], .agg #[.int .i64 0, .int .i64 0, .int .i64 0, .int .i64 0, .int .i64 0, .slice none 0 0, .slice none 0 0, .int .i64 0, .slice none 0 0, .int .i64 0, .int .i64 0], .bool false]) (by simp [results, Tryd.results34, go_sem, e_r, e_q]) rfl (by first | exact ⟨zeroX, [], zeroX, [], rfl, PlO.nil _ _, PlO.nil _ _, Disj.nil_l _, V_w4'⟩ | exact ⟨zeroX, zeroX, rfl, ⟨[], PlO.nil _ _⟩, [], PlO.nil _ _, Disj.nil_l _, V_w4'⟩ | exact ⟨zeroX, [], zeroX, rfl, PlO.nil _ _, [], PlO.nil _ _, Disj.nil_l _, V_w4'⟩)
  have tq1 := tq.out hq2
  have hq3 : (q : Int) < 3 := by omega
  have tL1 := tL.out
  have HT1 := LX.out.below V_w1'
  replace HT1 := keepC ((V_w1').drew) (HT.out hq2)
  cases b4
  · skip
    refine wp_region_noPanic ?_
    refine wp_region_held_drew (S := (fun W => Blk W (w.heap.size) 31 #[.int .i64 a.P, .int .i64 a.party, .int .i64 a.input, .int .i64 a.mask, .int .i64 a.delta, .slice x.sa x.sn x.sc, .slice x.ka x.kn x.kc, .int .i64 a.step, .slice x.ha x.hn x.hc, .int .i64 a.status, .int .i64 a.out] ∧ Blk W (w.heap.size + 1) 31 #[.int .i64 b.P, .int .i64 b.party, .int .i64 b.input, .int .i64 b.mask, .int .i64 b.delta, .slice z.sa z.sn z.sc, .slice z.ka z.kn z.kc, .int .i64 b.step, .slice z.ha z.hn z.hc, .int .i64 b.status, .int .i64 b.out] ∧ Blk W (w.heap.size + 2) 3 #[.int .i64 at_] ∧ Blk W (w.heap.size + 3) 3 #[.int .i64 i] ∧ Blk W (w.heap.size + 4) 3 #[.int .i64 k] ∧ W.cell? ⟨0, q, none⟩ = some (.int .i64 L))) (by kernel_rfl) ?hS76 (fun hHeld => ?go76)
    case hS76 => exact ⟨B_a.drew, B_b.drew, B_t.drew, B_i.drew, B_k.drew, HT1⟩
    refine tk (i := 0) (oi := ⟨some 16, _, _, _, _, _⟩) (v := ?v0_77) hHeld rfl ?y0_77 ?r0_77
    case y0_77 => (intro w hSw; obtain ⟨qS0, qS1, qS2, qS3, qS4, qS5⟩ := hSw; have cS0 := qS0.all11; have cS1 := qS1.all11; have cS2_0 := qS2.cell 0; have cS3_0 := qS3.cell 0; have cS4_0 := qS4.cell 0; first | (go_simp; first | done | with_reducible rfl) | with_reducible rfl)
    (try simp only [pt_])
    refine tk (i := 1) (oi := ⟨some 17, _, _, _, _, _⟩) (v := ?v1_78) hHeld rfl ?y1_78 ?r1_78
    case y1_78 => (intro w hSw; obtain ⟨qS0, qS1, qS2, qS3, qS4, qS5⟩ := hSw; have cS0 := qS0.all11; have cS1 := qS1.all11; have cS2_0 := qS2.cell 0; have cS3_0 := qS3.cell 0; have cS4_0 := qS4.cell 0; first | (go_simp; first | done | with_reducible rfl) | with_reducible rfl)
    (try simp only [pt_])
    refine wpAnyH_ready (rs := [2]) (by kernel_rfl) (by simp) ?_
    refine AllReadyH.cons (o := ⟨some 18, _, _, _, _, _⟩) rfl (fun K hK => ?_) ?_
    go_simp
    refine (CT.out _ (LA.out.below (V_w1'.drew)) (LB.out.below (V_w1'.drew)) (LX.out.below (V_w1'.drew))).mono ?_
    rintro e wl ⟨rfl, ul⟩
    have K_a_ul := Blk.below B_a.drew ul
    have K_b_ul := Blk.below B_b.drew ul
    have K_t_ul := Blk.below B_t.drew ul
    have K_i_ul := Blk.below B_i.drew ul
    have K_k_ul := Blk.below B_k.drew ul
    have HT2 := keepC ul HT1
    refine hK.out _ _ ?_ (fun hHeld => ?_)
    · exact ⟨K_a_ul, K_b_ul, K_t_ul, K_i_ul, K_k_ul, HT2⟩
    clear hK K
    (try simp only [pt_])
    refine tk (i := 3) (oi := ⟨some 19, _, _, _, _, _⟩) (v := ?v3_79) hHeld rfl ?y3_79 ?r3_79
    case y3_79 => (intro w _; first | (go_simp; first | done | with_reducible rfl) | with_reducible rfl)
    (try simp only [pt_])
    refine tk (i := 4) (oi := ⟨some 20, _, _, _, _, _⟩) (v := ?v4_80) hHeld rfl ?y4_80 ?r4_80
    case y4_80 => (intro w _; first | (go_simp; first | done | with_reducible rfl) | with_reducible rfl)
    (try simp only [pt_])
    refine tk (i := 5) (oi := ⟨some 21, _, _, _, _, _⟩) (v := ?v5_81) hHeld rfl ?y5_81 ?r5_81
    case y5_81 => (intro w hSw; obtain ⟨qS0, qS1, qS2, qS3, qS4, qS5⟩ := hSw; have cS0 := qS0.all11; have cS1 := qS1.all11; have cS2_0 := qS2.cell 0; have cS3_0 := qS3.cell 0; have cS4_0 := qS4.cell 0; first | (go_simp; first | done | with_reducible rfl) | with_reducible rfl)
    (try simp only [pt_])
    refine wpAnyH_ready (rs := [6]) (by kernel_rfl) (by simp) ?_
    refine AllReadyH.cons (o := ⟨some 22, _, _, _, _, _⟩) rfl (fun K hK => ?_) ?_
    go_simp
    refine (CW1.out _).mono ?_
    rintro e wy ⟨rfl, rfl⟩
    refine hK.out _ _ ?_ (fun hHeld => ?_)
    · exact ⟨K_a_ul, K_b_ul, K_t_ul, K_i_ul, K_k_ul, HT2⟩
    clear hK K
    (try simp only [pt_])
    refine tk (i := 7) (oi := ⟨some 23, _, _, _, _, _⟩) (v := ?v7_82) hHeld rfl ?y7_82 ?r7_82
    case y7_82 => (intro w _; first | (go_simp; first | done | with_reducible rfl) | with_reducible rfl)
    (try simp only [pt_])
    refine tk (i := 8) (oi := ⟨some 24, _, _, _, _, _⟩) (v := ?v8_83) hHeld rfl ?y8_83 ?r8_83
    case y8_83 => (intro w _; first | (go_simp; first | done | with_reducible rfl) | with_reducible rfl)
    (try simp only [pt_])
    refine tk (i := 9) (oi := ⟨some 25, _, _, _, _, _⟩) (v := ?v9_84) hHeld rfl ?y9_84 ?r9_84
    case y9_84 => (intro w _; first | (go_simp; first | done | with_reducible rfl) | with_reducible rfl)
    (try simp only [pt_])
    refine tk (i := 10) (oi := ⟨some 26, _, _, _, _, _⟩) (v := ?v10_85) hHeld rfl ?y10_85 ?r10_85
    case y10_85 => (intro w _; first | (go_simp; first | done | with_reducible rfl) | with_reducible rfl)
    (try simp only [pt_])
    refine tk (i := 11) (oi := ⟨some 27, _, _, _, _, _⟩) (v := ?v11_86) hHeld rfl ?y11_86 ?r11_86
    case y11_86 => (intro w hSw; obtain ⟨qS0, qS1, qS2, qS3, qS4, qS5⟩ := hSw; have cS0 := qS0.all11; have cS1 := qS1.all11; have cS2_0 := qS2.cell 0; have cS3_0 := qS3.cell 0; have cS4_0 := qS4.cell 0; first | (go_simp; first | done | with_reducible rfl) | with_reducible rfl)
    (try simp only [pt_])
    refine tk (i := 12) (oi := ⟨some 28, _, _, _, _, _⟩) (v := ?v12_87) hHeld rfl ?y12_87 ?r12_87
    case y12_87 => (intro w hSw; obtain ⟨qS0, qS1, qS2, qS3, qS4, qS5⟩ := hSw; have cS0 := qS0.all11; have cS1 := qS1.all11; have cS2_0 := qS2.cell 0; have cS3_0 := qS3.cell 0; have cS4_0 := qS4.cell 0; first | (go_simp; first | done | with_reducible rfl) | with_reducible rfl)
    (try simp only [pt_])
    refine wpAnyH_ready (rs := [13]) (by kernel_rfl) (by simp) ?_
    refine AllReadyH.cons (o := ⟨some 29, _, _, _, _, _⟩) rfl (fun K hK => ?_) ?_
    go_simp
    refine (CE.out rfl _).mono ?_
    rintro e wk ⟨rfl, qk⟩
    have uk := below_of_quiet qk
    clear qk
    have K_a_uk := Blk.below K_a_ul uk
    have K_b_uk := Blk.below K_b_ul uk
    have K_t_uk := Blk.below K_t_ul uk
    have K_i_uk := Blk.below K_i_ul uk
    have K_k_uk := Blk.below K_k_ul uk
    have HT3 := keepC uk HT2
    refine hK.out _ _ ?_ (fun hHeld => ?_)
    · exact ⟨K_a_uk, K_b_uk, K_t_uk, K_i_uk, K_k_uk, HT3⟩
    clear hK K
    (try simp only [pt_])
    refine tk (i := 14) (oi := ⟨some 30, _, _, _, _, _⟩) (v := ?v14_88) hHeld rfl ?y14_88 ?r14_88
    case y14_88 => (intro w _; first | (go_simp; first | done | with_reducible rfl) | with_reducible rfl)
    (try simp only [pt_])
    refine tk (i := 15) (oi := ⟨some 31, _, _, _, _, _⟩) (v := ?v15_89) hHeld rfl ?y15_89 ?r15_89
    case y15_89 => (intro w _; first | (go_simp; first | done | with_reducible rfl) | with_reducible rfl)
    (try simp only [pt_])
    refine tk (i := 16) (oi := ⟨some 32, _, _, _, _, _⟩) (v := ?v16_90) hHeld rfl ?y16_90 ?r16_90
    case y16_90 => (intro w _; first | (go_simp; first | done | with_reducible rfl) | with_reducible rfl)
    (try simp only [pt_])
    refine tk (i := 17) (oi := ⟨some 33, _, _, _, _, _⟩) (v := ?v17_91) hHeld rfl ?y17_91 ?r17_91
    case y17_91 => (intro w hSw; obtain ⟨qS0, qS1, qS2, qS3, qS4, qS5⟩ := hSw; have cS0 := qS0.all11; have cS1 := qS1.all11; have cS2_0 := qS2.cell 0; have cS3_0 := qS3.cell 0; have cS4_0 := qS4.cell 0; first | (go_simp; first | done | with_reducible rfl) | with_reducible rfl)
    (try simp only [pt_])
    refine tk (i := 18) (oi := ⟨some 34, _, _, _, _, _⟩) (v := ?v18_92) hHeld rfl ?y18_92 ?r18_92
    case y18_92 => (intro w hSw; obtain ⟨qS0, qS1, qS2, qS3, qS4, qS5⟩ := hSw; have cS0 := qS0.all11; have cS1 := qS1.all11; have cS2_0 := qS2.cell 0; have cS3_0 := qS3.cell 0; have cS4_0 := qS4.cell 0; first | (go_simp; first | done | with_reducible rfl) | with_reducible rfl)
    (try simp only [pt_])
    refine tk (i := 19) (oi := ⟨some 35, _, _, _, _, _⟩) (v := ?v19_93) hHeld rfl ?y19_93 ?r19_93
    case y19_93 => (intro w _; first | (go_simp; first | done | with_reducible rfl) | with_reducible rfl)
    (try simp only [pt_])
    refine tk (i := 20) (oi := ⟨some 36, _, _, _, _, _⟩) (v := ?v20_94) hHeld rfl ?y20_94 ?r20_94
    case y20_94 => (intro w _; first | (go_simp; first | done | with_reducible rfl) | with_reducible rfl)
    (try simp only [pt_])
    refine tk (i := 21) (oi := ⟨some 37, _, _, _, _, _⟩) (v := ?v21_95) hHeld rfl ?y21_95 ?r21_95
    case y21_95 => (intro w hSw; obtain ⟨qS0, qS1, qS2, qS3, qS4, qS5⟩ := hSw; have cS0 := qS0.all11; have cS1 := qS1.all11; have cS2_0 := qS2.cell 0; have cS3_0 := qS3.cell 0; have cS4_0 := qS4.cell 0; first | (go_simp; first | done | with_reducible rfl) | with_reducible rfl)
    (try simp only [pt_])
    refine tk (i := 22) (oi := ⟨some 38, _, _, _, _, _⟩) (v := ?v22_96) hHeld rfl ?y22_96 ?r22_96
    case y22_96 => (intro w _; first | (go_simp; first | done | with_reducible rfl) | with_reducible rfl)
    (try simp only [pt_])
    refine wpAnyH_ready (rs := [23]) (by kernel_rfl) (by simp) ?_
    refine AllReadyH.cons (o := ⟨some 39, _, _, _, _, _⟩) rfl (fun K hK => ?_) ?_
    go_simp
    refine (CW2.out _).mono ?_
    rintro e wz ⟨rfl, rfl⟩
    refine hK.out _ _ ?_ (fun hHeld => ?_)
    · exact ⟨K_a_uk, K_b_uk, K_t_uk, K_i_uk, K_k_uk, HT3⟩
    clear hK K
    (try simp only [pt_])
    refine tk (i := 24) (oi := ⟨some 40, _, _, _, _, _⟩) (v := ?v24_97) hHeld rfl ?y24_97 ?r24_97
    case y24_97 => (intro w _; first | (go_simp; first | done | with_reducible rfl) | with_reducible rfl)
    (try simp only [pt_])
    refine tk (i := 25) (oi := ⟨some 41, _, _, _, _, _⟩) (v := ?v25_98) hHeld rfl ?y25_98 ?r25_98
    case y25_98 => (intro w _; first | (go_simp; first | done | with_reducible rfl) | with_reducible rfl)
    (try simp only [pt_])
    refine wpAnyH_done (by kernel_rfl) ?_ _
    refine NoPanic.normal ?_
    rotate_left 1
    exact AllReadyH.nil
    exact AllReadyH.nil
    exact AllReadyH.nil
    exact AllReadyH.nil
    have u9 : Below w1'.heap.size w1' wk := (Below.refl _ _).drew.trans (ul.trans (uk.mono ul.size))
    clear ul uk K_a_ul K_b_ul K_t_ul K_i_ul K_k_ul K_a_uk K_b_uk K_t_uk K_i_uk K_k_uk HT2 HT3
    replace B_a := B_a.below u9
    replace B_b := B_b.below u9
    replace B_t := B_t.below u9
    replace B_i := B_i.below u9
    replace B_k := B_k.below u9
    replace B_r := B_r.below u9
    replace B_q := B_q.below u9
    have S_wk := u9.size
    have V_wk : Below w.heap.size w wk := V_w1'.trans (u9.mono V_w1'.size)
    clear V_w1'
    clear u9
    have e_r := B_r.all11
    have f_r := B_r.frz11
    have e_q := B_q.all11
    have f_q := B_q.frz11
    go_wp2_with fail
    clear e_r f_r e_q f_q
    refine Exists.elim (B_r.row11 (.int .i64 0) (.int .i64 0) (.int .i64 0) (.int .i64 0) (.int .i64 0) (.slice none 0 0) (.slice none 0 0) (.int .i64 0) (.slice none 0 0) (.int .i64 0) (.int .i64 0)) (fun w5_11' q => ?_)
    rw [q.1]; replace B_r := q.2.1; have G := q.2.2; clear q
    have V_w5'_0 := (V_wk).trans (G.below (V_wk).size (fun q hq => by have := (V_wk).size; simp at hq; omega))
    replace B_a := B_a.only G (by first | (simp; done) | (simp; omega))
    replace B_b := B_b.only G (by first | (simp; done) | (simp; omega))
    replace B_t := B_t.only G (by first | (simp; done) | (simp; omega))
    replace B_i := B_i.only G (by first | (simp; done) | (simp; omega))
    replace B_k := B_k.only G (by first | (simp; done) | (simp; omega))
    replace B_q := B_q.only G (by first | (simp; done) | (simp; omega))
    have sG0 := G.size
    clear G
    clear V_wk
    refine Exists.elim (B_q.row11 (.int .i64 0) (.int .i64 0) (.int .i64 0) (.int .i64 0) (.int .i64 0) (.slice none 0 0) (.slice none 0 0) (.int .i64 0) (.slice none 0 0) (.int .i64 0) (.int .i64 0)) (fun w5' q => ?_)
    rw [q.1]; replace B_q := q.2.1; have G := q.2.2; clear q
    have V_w5' := (V_w5'_0).trans (G.below (V_w5'_0).size (fun q hq => by have := (V_w5'_0).size; simp at hq; omega))
    replace B_a := B_a.only G (by first | (simp; done) | (simp; omega))
    replace B_b := B_b.only G (by first | (simp; done) | (simp; omega))
    replace B_t := B_t.only G (by first | (simp; done) | (simp; omega))
    replace B_i := B_i.only G (by first | (simp; done) | (simp; omega))
    replace B_k := B_k.only G (by first | (simp; done) | (simp; omega))
    replace B_r := B_r.only G (by first | (simp; done) | (simp; omega))
    have sG1 := G.size
    clear G
    clear V_w5'_0
    have S_w5' : wk.heap.size + 0 ≤ w5'.heap.size := by omega
    clear sG0 sG1
    have e_r := B_r.all11
    have e_q := B_q.all11
    exact bodyPost_ret (v := .tuple #[.agg #[.int .i64 0, .int .i64 0, .int .i64 0, .int .i64 0, .int .i64 0, .slice none 0 0, .slice none 0 0, .int .i64 0, .slice none 0 0, .int .i64 0, .int .i64 0], .agg #[.int .i64 0, .int .i64 0, .int .i64 0, .int .i64 0, .int .i64 0, .slice none 0 0, .slice none 0 0, .int .i64 0, .slice none 0 0, .int .i64 0, .int .i64 0], .bool false]) (by simp [results, Tryd.results34, go_sem, e_r, e_q]) rfl (by first | exact ⟨zeroX, [], zeroX, [], rfl, PlO.nil _ _, PlO.nil _ _, Disj.nil_l _, V_w5'⟩ | exact ⟨zeroX, zeroX, rfl, ⟨[], PlO.nil _ _⟩, [], PlO.nil _ _, Disj.nil_l _, V_w5'⟩ | exact ⟨zeroX, [], zeroX, rfl, PlO.nil _ _, [], PlO.nil _ _, Disj.nil_l _, V_w5'⟩)
  have z1 : True := trivial
  refine wp_region_noPanic ?_
  refine wp_region_held_drew (S := (fun W => Blk W (w.heap.size) 31 #[.int .i64 a.P, .int .i64 a.party, .int .i64 a.input, .int .i64 a.mask, .int .i64 a.delta, .slice x.sa x.sn x.sc, .slice x.ka x.kn x.kc, .int .i64 a.step, .slice x.ha x.hn x.hc, .int .i64 a.status, .int .i64 a.out] ∧ Blk W (w.heap.size + 1) 31 #[.int .i64 b.P, .int .i64 b.party, .int .i64 b.input, .int .i64 b.mask, .int .i64 b.delta, .slice z.sa z.sn z.sc, .slice z.ka z.kn z.kc, .int .i64 b.step, .slice z.ha z.hn z.hc, .int .i64 b.status, .int .i64 b.out] ∧ Blk W (w.heap.size + 2) 3 #[.int .i64 at_] ∧ Blk W (w.heap.size + 3) 3 #[.int .i64 i] ∧ Blk W (w.heap.size + 4) 3 #[.int .i64 k] ∧ W.cell? ⟨0, q, none⟩ = some (.int .i64 L))) (by kernel_rfl) ?hS99 (fun hHeld => ?go99)
  case hS99 => exact ⟨B_a.drew, B_b.drew, B_t.drew, B_i.drew, B_k.drew, HT1⟩
  refine tk (i := 0) (oi := ⟨some 16, _, _, _, _, _⟩) (v := ?v0_100) hHeld rfl ?y0_100 ?r0_100
  case y0_100 => (intro w hSw; obtain ⟨qS0, qS1, qS2, qS3, qS4, qS5⟩ := hSw; have cS0 := qS0.all11; have cS1 := qS1.all11; have cS2_0 := qS2.cell 0; have cS3_0 := qS3.cell 0; have cS4_0 := qS4.cell 0; first | (go_simp; first | done | with_reducible rfl) | with_reducible rfl)
  (try simp only [pt_])
  refine tk (i := 1) (oi := ⟨some 17, _, _, _, _, _⟩) (v := ?v1_101) hHeld rfl ?y1_101 ?r1_101
  case y1_101 => (intro w hSw; obtain ⟨qS0, qS1, qS2, qS3, qS4, qS5⟩ := hSw; have cS0 := qS0.all11; have cS1 := qS1.all11; have cS2_0 := qS2.cell 0; have cS3_0 := qS3.cell 0; have cS4_0 := qS4.cell 0; first | (go_simp; first | done | with_reducible rfl) | with_reducible rfl)
  (try simp only [pt_])
  refine wpAnyH_ready (rs := [2]) (by kernel_rfl) (by simp) ?_
  refine AllReadyH.cons (o := ⟨some 18, _, _, _, _, _⟩) rfl (fun K hK => ?_) ?_
  go_simp
  refine (CT.out _ (LA.out.below (V_w1'.drew)) (LB.out.below (V_w1'.drew)) (LX.out.below (V_w1'.drew))).mono ?_
  rintro e wl ⟨rfl, ul⟩
  have K_a_ul := Blk.below B_a.drew ul
  have K_b_ul := Blk.below B_b.drew ul
  have K_t_ul := Blk.below B_t.drew ul
  have K_i_ul := Blk.below B_i.drew ul
  have K_k_ul := Blk.below B_k.drew ul
  have HT2 := keepC ul HT1
  refine hK.out _ _ ?_ (fun hHeld => ?_)
  · exact ⟨K_a_ul, K_b_ul, K_t_ul, K_i_ul, K_k_ul, HT2⟩
  clear hK K
  (try simp only [pt_])
  refine tk (i := 3) (oi := ⟨some 19, _, _, _, _, _⟩) (v := ?v3_102) hHeld rfl ?y3_102 ?r3_102
  case y3_102 => (intro w _; first | (go_simp; first | done | with_reducible rfl) | with_reducible rfl)
  (try simp only [pt_])
  refine tk (i := 4) (oi := ⟨some 20, _, _, _, _, _⟩) (v := ?v4_103) hHeld rfl ?y4_103 ?r4_103
  case y4_103 => (intro w _; first | (go_simp; first | done | with_reducible rfl) | with_reducible rfl)
  (try simp only [pt_])
  refine tk (i := 5) (oi := ⟨some 21, _, _, _, _, _⟩) (v := ?v5_104) hHeld rfl ?y5_104 ?r5_104
  case y5_104 => (intro w hSw; obtain ⟨qS0, qS1, qS2, qS3, qS4, qS5⟩ := hSw; have cS0 := qS0.all11; have cS1 := qS1.all11; have cS2_0 := qS2.cell 0; have cS3_0 := qS3.cell 0; have cS4_0 := qS4.cell 0; first | (go_simp; first | done | with_reducible rfl) | with_reducible rfl)
  (try simp only [pt_])
  refine wpAnyH_ready (rs := [6]) (by kernel_rfl) (by simp) ?_
  refine AllReadyH.cons (o := ⟨some 22, _, _, _, _, _⟩) rfl (fun K hK => ?_) ?_
  go_simp
  refine (CW1.out _).mono ?_
  rintro e wy ⟨rfl, rfl⟩
  refine hK.out _ _ ?_ (fun hHeld => ?_)
  · exact ⟨K_a_ul, K_b_ul, K_t_ul, K_i_ul, K_k_ul, HT2⟩
  clear hK K
  (try simp only [pt_])
  refine tk (i := 7) (oi := ⟨some 23, _, _, _, _, _⟩) (v := ?v7_105) hHeld rfl ?y7_105 ?r7_105
  case y7_105 => (intro w _; first | (go_simp; first | done | with_reducible rfl) | with_reducible rfl)
  (try simp only [pt_])
  refine tk (i := 8) (oi := ⟨some 24, _, _, _, _, _⟩) (v := ?v8_106) hHeld rfl ?y8_106 ?r8_106
  case y8_106 => (intro w _; first | (go_simp; first | done | with_reducible rfl) | with_reducible rfl)
  (try simp only [pt_])
  refine tk (i := 9) (oi := ⟨some 25, _, _, _, _, _⟩) (v := ?v9_107) hHeld rfl ?y9_107 ?r9_107
  case y9_107 => (intro w _; first | (go_simp; first | done | with_reducible rfl) | with_reducible rfl)
  (try simp only [pt_])
  refine tk (i := 10) (oi := ⟨some 26, _, _, _, _, _⟩) (v := ?v10_108) hHeld rfl ?y10_108 ?r10_108
  case y10_108 => (intro w _; first | (go_simp; first | done | with_reducible rfl) | with_reducible rfl)
  (try simp only [pt_])
  refine tk (i := 11) (oi := ⟨some 27, _, _, _, _, _⟩) (v := ?v11_109) hHeld rfl ?y11_109 ?r11_109
  case y11_109 => (intro w hSw; obtain ⟨qS0, qS1, qS2, qS3, qS4, qS5⟩ := hSw; have cS0 := qS0.all11; have cS1 := qS1.all11; have cS2_0 := qS2.cell 0; have cS3_0 := qS3.cell 0; have cS4_0 := qS4.cell 0; first | (go_simp; first | done | with_reducible rfl) | with_reducible rfl)
  (try simp only [pt_])
  refine tk (i := 12) (oi := ⟨some 28, _, _, _, _, _⟩) (v := ?v12_110) hHeld rfl ?y12_110 ?r12_110
  case y12_110 => (intro w hSw; obtain ⟨qS0, qS1, qS2, qS3, qS4, qS5⟩ := hSw; have cS0 := qS0.all11; have cS1 := qS1.all11; have cS2_0 := qS2.cell 0; have cS3_0 := qS3.cell 0; have cS4_0 := qS4.cell 0; first | (go_simp; first | done | with_reducible rfl) | with_reducible rfl)
  (try simp only [pt_])
  refine wpAnyH_ready (rs := [13]) (by kernel_rfl) (by simp) ?_
  refine AllReadyH.cons (o := ⟨some 29, _, _, _, _, _⟩) rfl (fun K hK => ?_) ?_
  go_simp
  refine (CE.out rfl _).mono ?_
  rintro e wk ⟨rfl, qk⟩
  have uk := below_of_quiet qk
  clear qk
  have K_a_uk := Blk.below K_a_ul uk
  have K_b_uk := Blk.below K_b_ul uk
  have K_t_uk := Blk.below K_t_ul uk
  have K_i_uk := Blk.below K_i_ul uk
  have K_k_uk := Blk.below K_k_ul uk
  have HT3 := keepC uk HT2
  refine hK.out _ _ ?_ (fun hHeld => ?_)
  · exact ⟨K_a_uk, K_b_uk, K_t_uk, K_i_uk, K_k_uk, HT3⟩
  clear hK K
  (try simp only [pt_])
  refine tk (i := 14) (oi := ⟨some 30, _, _, _, _, _⟩) (v := ?v14_111) hHeld rfl ?y14_111 ?r14_111
  case y14_111 => (intro w _; first | (go_simp; first | done | with_reducible rfl) | with_reducible rfl)
  (try simp only [pt_])
  refine tk (i := 15) (oi := ⟨some 31, _, _, _, _, _⟩) (v := ?v15_112) hHeld rfl ?y15_112 ?r15_112
  case y15_112 => (intro w _; first | (go_simp; first | done | with_reducible rfl) | with_reducible rfl)
  (try simp only [pt_])
  refine tk (i := 16) (oi := ⟨some 32, _, _, _, _, _⟩) (v := ?v16_113) hHeld rfl ?y16_113 ?r16_113
  case y16_113 => (intro w _; first | (go_simp; first | done | with_reducible rfl) | with_reducible rfl)
  (try simp only [pt_])
  refine tk (i := 17) (oi := ⟨some 33, _, _, _, _, _⟩) (v := ?v17_114) hHeld rfl ?y17_114 ?r17_114
  case y17_114 => (intro w hSw; obtain ⟨qS0, qS1, qS2, qS3, qS4, qS5⟩ := hSw; have cS0 := qS0.all11; have cS1 := qS1.all11; have cS2_0 := qS2.cell 0; have cS3_0 := qS3.cell 0; have cS4_0 := qS4.cell 0; first | (go_simp; first | done | with_reducible rfl) | with_reducible rfl)
  (try simp only [pt_])
  refine tk (i := 18) (oi := ⟨some 34, _, _, _, _, _⟩) (v := ?v18_115) hHeld rfl ?y18_115 ?r18_115
  case y18_115 => (intro w hSw; obtain ⟨qS0, qS1, qS2, qS3, qS4, qS5⟩ := hSw; have cS0 := qS0.all11; have cS1 := qS1.all11; have cS2_0 := qS2.cell 0; have cS3_0 := qS3.cell 0; have cS4_0 := qS4.cell 0; first | (go_simp; first | done | with_reducible rfl) | with_reducible rfl)
  (try simp only [pt_])
  refine tk (i := 19) (oi := ⟨some 35, _, _, _, _, _⟩) (v := ?v19_116) hHeld rfl ?y19_116 ?r19_116
  case y19_116 => (intro w _; first | (go_simp; first | done | with_reducible rfl) | with_reducible rfl)
  (try simp only [pt_])
  refine tk (i := 20) (oi := ⟨some 36, _, _, _, _, _⟩) (v := ?v20_117) hHeld rfl ?y20_117 ?r20_117
  case y20_117 => (intro w _; first | (go_simp; first | done | with_reducible rfl) | with_reducible rfl)
  (try simp only [pt_])
  refine tk (i := 21) (oi := ⟨some 37, _, _, _, _, _⟩) (v := ?v21_118) hHeld rfl ?y21_118 ?r21_118
  case y21_118 => (intro w hSw; obtain ⟨qS0, qS1, qS2, qS3, qS4, qS5⟩ := hSw; have cS0 := qS0.all11; have cS1 := qS1.all11; have cS2_0 := qS2.cell 0; have cS3_0 := qS3.cell 0; have cS4_0 := qS4.cell 0; first | (go_simp; first | done | with_reducible rfl) | with_reducible rfl)
  (try simp only [pt_])
  refine tk (i := 22) (oi := ⟨some 38, _, _, _, _, _⟩) (v := ?v22_119) hHeld rfl ?y22_119 ?r22_119
  case y22_119 => (intro w _; first | (go_simp; first | done | with_reducible rfl) | with_reducible rfl)
  (try simp only [pt_])
  refine wpAnyH_ready (rs := [23]) (by kernel_rfl) (by simp) ?_
  refine AllReadyH.cons (o := ⟨some 39, _, _, _, _, _⟩) rfl (fun K hK => ?_) ?_
  go_simp
  refine (CW2.out _).mono ?_
  rintro e wz ⟨rfl, rfl⟩
  refine hK.out _ _ ?_ (fun hHeld => ?_)
  · exact ⟨K_a_uk, K_b_uk, K_t_uk, K_i_uk, K_k_uk, HT3⟩
  clear hK K
  (try simp only [pt_])
  refine tk (i := 24) (oi := ⟨some 40, _, _, _, _, _⟩) (v := ?v24_120) hHeld rfl ?y24_120 ?r24_120
  case y24_120 => (intro w _; first | (go_simp; first | done | with_reducible rfl) | with_reducible rfl)
  (try simp only [pt_])
  refine tk (i := 25) (oi := ⟨some 41, _, _, _, _, _⟩) (v := ?v25_121) hHeld rfl ?y25_121 ?r25_121
  case y25_121 => (intro w _; first | (go_simp; first | done | with_reducible rfl) | with_reducible rfl)
  (try simp only [pt_])
  refine wpAnyH_done (by kernel_rfl) ?_ _
  refine NoPanic.normal ?_
  rotate_left 1
  exact AllReadyH.nil
  exact AllReadyH.nil
  exact AllReadyH.nil
  exact AllReadyH.nil
  have u9 : Below w1'.heap.size w1' wk := (Below.refl _ _).drew.trans (ul.trans (uk.mono ul.size))
  clear ul uk K_a_ul K_b_ul K_t_ul K_i_ul K_k_ul K_a_uk K_b_uk K_t_uk K_i_uk K_k_uk HT2 HT3
  replace B_a := B_a.below u9
  replace B_b := B_b.below u9
  replace B_t := B_t.below u9
  replace B_i := B_i.below u9
  replace B_k := B_k.below u9
  replace B_r := B_r.below u9
  replace B_q := B_q.below u9
  have S_wk := u9.size
  have V_wk : Below w.heap.size w wk := V_w1'.trans (u9.mono V_w1'.size)
  clear V_w1'
  clear u9
  clear z1 HT1 tL1 tq1
  replace CR := Lib.hid (CR.out (by first | rfl | trivial))
  have e_a := B_a.all11
  have e_b := B_b.all11
  have e_t_0 := B_t.a1_0
  have e_i_0 := B_i.a1_0
  have e_k_0 := B_k.a1_0
  go_wp2_with fail
  clear e_a e_b e_t_0 e_i_0 e_k_0
  refine (CR.out _ _ _ _ _ (LA.out.below V_wk) (LB.out.below V_wk) (LX.out.below V_wk) B_a B_t B_i B_k).mono ?_
  rintro e w5 ⟨y1, F1, y2, F2, p, n, c, G, rfl, o1, o2, om, d1, d2, d3, UX⟩
  clear CR om d2 d3
  replace o1 := o1.lower (b' := w.heap.size + 7) (by omega)
  replace o2 := o2.lower (b' := w.heap.size + 7) (by omega)
  replace B_a := B_a.below UX
  replace B_b := B_b.below UX
  replace B_t := B_t.below UX
  replace B_i := B_i.below UX
  replace B_k := B_k.below UX
  replace B_r := B_r.below UX
  replace B_q := B_q.below UX
  have S_w5 := UX.size
  have V_w5 : Below w.heap.size w w5 := V_wk.trans (UX.mono V_wk.size)
  clear V_wk
  clear UX
  have Q_o1 := Lib.hid o1.feet
  have Q_o2 := Lib.hid o2.feet
  clear B_t
  clear B_i
  clear B_k
  go_upto_region 4 with fail
  refine Exists.elim (Blk.new_ w5 (b := w5.heap.size) rfl 31 #[.int .i64 s.P, .int .i64 s.party, .int .i64 s.input, .int .i64 s.mask, .int .i64 s.delta, .slice y1.sa y1.sn y1.sc, .slice y1.ka y1.kn y1.kc, .int .i64 s.step, .slice y1.ha y1.hn y1.hc, .int .i64 s.status, .int .i64 s.out]) (fun w6_a0' q => ?_)
  rw [q.1]; have B_c := q.2.1; have s_w6_a0' := q.2.2.1; have u_w6_a0' := q.2.2.2; clear q
  refine Exists.elim (Blk.new_ w6_a0' (b := w5.heap.size + 1) s_w6_a0' 31 #[.int .i64 t.P, .int .i64 t.party, .int .i64 t.input, .int .i64 t.mask, .int .i64 t.delta, .slice y2.sa y2.sn y2.sc, .slice y2.ka y2.kn y2.kc, .int .i64 t.step, .slice y2.ha y2.hn y2.hc, .int .i64 t.status, .int .i64 t.out]) (fun w6' q => ?_)
  rw [q.1]; have B_d := q.2.1; have s_w6' := q.2.2.1; have u_w6' := q.2.2.2; clear q
  replace B_c := (B_c.below u_w6')
  have U := (u_w6_a0'.trans (u_w6'.mono u_w6_a0'.size))
  replace B_a := B_a.below U
  replace B_b := B_b.below U
  replace B_r := B_r.below U
  replace B_q := B_q.below U
  replace o1 := o1.below U
  replace o2 := o2.below U
  have S_w6' : w5.heap.size + 2 ≤ w6'.heap.size := Nat.le_of_eq s_w6'.symm
  have V_w6' := V_w5.trans (U.mono (V_w5).size)
  clear u_w6_a0' u_w6' s_w6_a0' s_w6' U V_w5
  replace B_c := Blk.drew B_c
  replace B_d := Blk.drew B_d
  replace B_r := Blk.drew B_r
  replace B_q := Blk.drew B_q
  replace o1 := o1.drew
  replace o2 := o2.drew
  refine wp_region_noPanic ?_
  refine wp_region_held_drew (S := (fun W => Blk W ((w5.heap.size)) 31 #[.int .i64 s.P, .int .i64 s.party, .int .i64 s.input, .int .i64 s.mask, .int .i64 s.delta, .slice y1.sa y1.sn y1.sc, .slice y1.ka y1.kn y1.kc, .int .i64 s.step, .slice y1.ha y1.hn y1.hc, .int .i64 s.status, .int .i64 s.out] ∧ Blk W ((w5.heap.size + 1)) 31 #[.int .i64 t.P, .int .i64 t.party, .int .i64 t.input, .int .i64 t.mask, .int .i64 t.delta, .slice y2.sa y2.sn y2.sc, .slice y2.ka y2.kn y2.kc, .int .i64 t.step, .slice y2.ha y2.hn y2.hc, .int .i64 t.status, .int .i64 t.out])) (by kernel_rfl) ?hS122 (fun hHeld => ?go122)
  case hS122 => exact ⟨B_c, B_d⟩
  refine tk (i := 0) (oi := ⟨some 52, _, _, _, _, _⟩) (v := ?v0_123) hHeld rfl ?y0_123 ?r0_123
  case y0_123 => (intro w hSw; obtain ⟨qS0, qS1⟩ := hSw; have cS0 := qS0.all11; have cS1 := qS1.all11; first | (go_simp; first | done | with_reducible rfl) | with_reducible rfl)
  (try simp only [pt_])
  refine tk (i := 1) (oi := ⟨some 53, _, _, _, _, _⟩) (v := ?v1_124) hHeld rfl ?y1_124 ?r1_124
  case y1_124 => (intro w hSw; obtain ⟨qS0, qS1⟩ := hSw; have cS0 := qS0.all11; have cS1 := qS1.all11; first | (go_simp; first | done | with_reducible rfl) | with_reducible rfl)
  (try simp only [pt_])
  have wdS := (Nat.le_refl w6'.heap.size : w6'.heap.size ≤ w6'.drew.heap.size)
  generalize hwd : w6'.drew = wd at *
  have G_all : Only [w.heap.size + 5, w.heap.size + 6] wd wd := Only.refl _ _
  refine wpAnyH_ready (rs := [2]) (by kernel_rfl) (by simp) ?_
  refine AllReadyH.cons (o := ⟨none, _, _, _, _, _⟩) rfl (fun K hK => ?_) ?_
  refine step_st B_r (by simp [Region.wanted]) _ _ _ (by rfl) (by rfl) (by rfl) (by kernel_rfl) (by rfl) (by simp [Value.oneCell']) ?_
  intro wS2 B_r' G
  replace B_r := B_r'; clear B_r'
  replace B_c := B_c.only G (by first | (simp; done) | (simp; omega))
  replace B_d := B_d.only G (by first | (simp; done) | (simp; omega))
  replace B_q := B_q.only G (by first | (simp; done) | (simp; omega))
  replace o1 := o1.only G (fun q hq hq' => by have := Q_o1.out q hq; simp at hq'; omega)
  replace o2 := o2.only G (fun q hq hq' => by have := Q_o2.out q hq; simp at hq'; omega)
  replace G_all := G_all.trans (G.more (F' := [w.heap.size + 5, w.heap.size + 6]) (by simp))
  clear G
  refine hK.out _ _ ?_ (fun hHeld => ?_)
  · exact ⟨B_c, B_d⟩
  clear hK K
  (try simp only [pt_])
  refine wpAnyH_ready (rs := [3]) (by kernel_rfl) (by simp) ?_
  refine AllReadyH.cons (o := ⟨none, _, _, _, _, _⟩) rfl (fun K hK => ?_) ?_
  refine step_st B_q (by simp [Region.wanted]) _ _ _ (by rfl) (by rfl) (by rfl) (by kernel_rfl) (by rfl) (by simp [Value.oneCell']) ?_
  intro wS3 B_q' G
  replace B_q := B_q'; clear B_q'
  replace B_c := B_c.only G (by first | (simp; done) | (simp; omega))
  replace B_d := B_d.only G (by first | (simp; done) | (simp; omega))
  replace B_r := B_r.only G (by first | (simp; done) | (simp; omega))
  replace o1 := o1.only G (fun q hq hq' => by have := Q_o1.out q hq; simp at hq'; omega)
  replace o2 := o2.only G (fun q hq hq' => by have := Q_o2.out q hq; simp at hq'; omega)
  replace G_all := G_all.trans (G.more (F' := [w.heap.size + 5, w.heap.size + 6]) (by simp))
  clear G
  refine hK.out _ _ ?_ (fun hHeld => ?_)
  · exact ⟨B_c, B_d⟩
  clear hK K
  (try simp only [pt_])
  refine tk (i := 4) (oi := ⟨some 12, _, _, _, _, _⟩) (v := ?v4_125) hHeld rfl ?y4_125 ?r4_125
  case y4_125 => (intro w _; first | (go_simp; first | done | with_reducible rfl) | with_reducible rfl)
  (try simp only [pt_])
  refine wpAnyH_done (by kernel_rfl) ?_ _
  refine NoPanic.normal ?_
  rotate_left 1
  exact AllReadyH.nil
  exact AllReadyH.nil
  have GE := (Only.refl [w.heap.size + 5, w.heap.size + 6] w6').drew.trans (hwd ▸ G_all)
  clear hwd G_all hHeld wdS
  have VE : Below w.heap.size w wS3 := (V_w6').trans (GE.below (by omega) (by intro q hq; simp at hq; omega))
  first | (refine (‹∀ (a : Act) (w : World), Code.wp Tryd.prog Code.ret _ a w → _›) _ _ ?_; refine wp_ret ?_) | go_wp2
  have e_r := B_r.all11
  have e_q := B_q.all11
  exact bodyPost_ret (v := .tuple #[.agg #[.int .i64 s.P, .int .i64 s.party, .int .i64 s.input, .int .i64 s.mask, .int .i64 s.delta, .slice y1.sa y1.sn y1.sc, .slice y1.ka y1.kn y1.kc, .int .i64 s.step, .slice y1.ha y1.hn y1.hc, .int .i64 s.status, .int .i64 s.out], .agg #[.int .i64 t.P, .int .i64 t.party, .int .i64 t.input, .int .i64 t.mask, .int .i64 t.delta, .slice y2.sa y2.sn y2.sc, .slice y2.ka y2.kn y2.kc, .int .i64 t.step, .slice y2.ha y2.hn y2.hc, .int .i64 t.status, .int .i64 t.out], .bool true]) (by simp [results, Tryd.results34, go_sem, e_r, e_q]) rfl (by first | exact ⟨y1, F1, y2, F2, rfl, o1.lower (by omega), o2.lower (by omega), d1, VE⟩ | exact ⟨y1, y2, rfl, F1, o1.lower (by omega), F2, o2.lower (by omega), d1, VE⟩)
set_option maxHeartbeats 16000000 in
set_option maxRecDepth 100000 in
theorem spec_RunBent_any (a : Pl) (x : PlX) (b : Pl) (z : PlX) (at_ i k : Int) (w : World) (h : PlR w x a.shares a.keys a.heard) (h' : PlR w z b.shares b.keys b.heard) (hT : Tbl w) :
    Calls Tryd.prog 35 #[.agg #[.int .i64 a.P, .int .i64 a.party, .int .i64 a.input, .int .i64 a.mask, .int .i64 a.delta, .slice x.sa x.sn x.sc, .slice x.ka x.kn x.kc, .int .i64 a.step, .slice x.ha x.hn x.hc, .int .i64 a.status, .int .i64 a.out], .agg #[.int .i64 b.P, .int .i64 b.party, .int .i64 b.input, .int .i64 b.mask, .int .i64 b.delta, .slice z.sa z.sn z.sc, .slice z.ka z.kn z.kc, .int .i64 b.step, .slice z.ha z.hn z.hc, .int .i64 b.status, .int .i64 b.out], .int .i64 at_, .int .i64 i, .int .i64 k] w fun e w' => ∃ y F y' F', e = .returned (.tuple #[.agg #[.int .i64 (rbR a b at_ i k).1.P, .int .i64 (rbR a b at_ i k).1.party, .int .i64 (rbR a b at_ i k).1.input, .int .i64 (rbR a b at_ i k).1.mask, .int .i64 (rbR a b at_ i k).1.delta, .slice y.sa y.sn y.sc, .slice y.ka y.kn y.kc, .int .i64 (rbR a b at_ i k).1.step, .slice y.ha y.hn y.hc, .int .i64 (rbR a b at_ i k).1.status, .int .i64 (rbR a b at_ i k).1.out], .agg #[.int .i64 (rbR a b at_ i k).2.P, .int .i64 (rbR a b at_ i k).2.party, .int .i64 (rbR a b at_ i k).2.input, .int .i64 (rbR a b at_ i k).2.mask, .int .i64 (rbR a b at_ i k).2.delta, .slice y'.sa y'.sn y'.sc, .slice y'.ka y'.kn y'.kc, .int .i64 (rbR a b at_ i k).2.step, .slice y'.ha y'.hn y'.hc, .int .i64 (rbR a b at_ i k).2.status, .int .i64 (rbR a b at_ i k).2.out], .bool (rbB a b at_ i k)]) ∧ PlO w' w.heap.size y (rbR a b at_ i k).1.shares (rbR a b at_ i k).1.keys (rbR a b at_ i k).1.heard F ∧ PlO w' w.heap.size y' (rbR a b at_ i k).2.shares (rbR a b at_ i k).2.keys (rbR a b at_ i k).2.heard F' ∧ Disj F F' ∧ Below w.heap.size w w' := by
  have CT := fun (W : World) (h2 : PlR W x a.shares a.keys a.heard) (k2 : PlR W z b.shares b.keys b.heard) (hT2 : Tbl W) => ptBoth_any a x b z W h2 k2 hT2
  have hP := fun (hb : twoB a b = true) => (show 2 ≤ a.P ∧ a.P ≤ 251 from ⟨(PlN.of (twoB_parts hb).1).p1, (PlN.of (twoB_parts hb).1).p2⟩)
  have CR := fun (hb : rbB a b at_ i k = true) (W : World) (h2 : PlR W x a.shares a.keys a.heard) (k2 : PlR W z b.shares b.keys b.heard) => (by
    obtain ⟨g1, g2, g3, g4⟩ := rbB_parts hb
    obtain ⟨t1, t2, t3, t4, t5, t6, t7, t8, t9⟩ := twoB_parts g1
    have q := ptRun_any a b x z at_ i.toNat k W h2 k2 (two_runS g1) t3 t4 t5 (Or.inr ⟨g2.1, g2.2, by omega, g3.1, g3.2⟩)
    rw [show ((i.toNat : Nat) : Int) = i from by omega] at q
    exact q : Calls Tryd.prog 89 #[.agg #[.int .i64 a.P, .int .i64 a.party, .int .i64 a.input, .int .i64 a.mask, .int .i64 a.delta, .slice x.sa x.sn x.sc, .slice x.ka x.kn x.kc, .int .i64 a.step, .slice x.ha x.hn x.hc, .int .i64 a.status, .int .i64 a.out], .agg #[.int .i64 b.P, .int .i64 b.party, .int .i64 b.input, .int .i64 b.mask, .int .i64 b.delta, .slice z.sa z.sn z.sc, .slice z.ka z.kn z.kc, .int .i64 b.step, .slice z.ha z.hn z.hc, .int .i64 b.status, .int .i64 b.out], .int .i64 at_, .int .i64 i, .int .i64 k] W fun e w' => ∃ y F y' F' p n c G, e = .returned (.tuple #[.agg #[.int .i64 (runP (chgP a.P at_ i.toNat k) 3 a b []).1.P, .int .i64 (runP (chgP a.P at_ i.toNat k) 3 a b []).1.party, .int .i64 (runP (chgP a.P at_ i.toNat k) 3 a b []).1.input, .int .i64 (runP (chgP a.P at_ i.toNat k) 3 a b []).1.mask, .int .i64 (runP (chgP a.P at_ i.toNat k) 3 a b []).1.delta, .slice y.sa y.sn y.sc, .slice y.ka y.kn y.kc, .int .i64 (runP (chgP a.P at_ i.toNat k) 3 a b []).1.step, .slice y.ha y.hn y.hc, .int .i64 (runP (chgP a.P at_ i.toNat k) 3 a b []).1.status, .int .i64 (runP (chgP a.P at_ i.toNat k) 3 a b []).1.out], .agg #[.int .i64 (runP (chgP a.P at_ i.toNat k) 3 a b []).2.1.P, .int .i64 (runP (chgP a.P at_ i.toNat k) 3 a b []).2.1.party, .int .i64 (runP (chgP a.P at_ i.toNat k) 3 a b []).2.1.input, .int .i64 (runP (chgP a.P at_ i.toNat k) 3 a b []).2.1.mask, .int .i64 (runP (chgP a.P at_ i.toNat k) 3 a b []).2.1.delta, .slice y'.sa y'.sn y'.sc, .slice y'.ka y'.kn y'.kc, .int .i64 (runP (chgP a.P at_ i.toNat k) 3 a b []).2.1.step, .slice y'.ha y'.hn y'.hc, .int .i64 (runP (chgP a.P at_ i.toNat k) 3 a b []).2.1.status, .int .i64 (runP (chgP a.P at_ i.toNat k) 3 a b []).2.1.out], .slice p n c]) ∧ PlO w' W.heap.size y (runP (chgP a.P at_ i.toNat k) 3 a b []).1.shares (runP (chgP a.P at_ i.toNat k) 3 a b []).1.keys (runP (chgP a.P at_ i.toNat k) 3 a b []).1.heard F ∧ PlO w' W.heap.size y' (runP (chgP a.P at_ i.toNat k) 3 a b []).2.1.shares (runP (chgP a.P at_ i.toNat k) 3 a b []).2.1.keys (runP (chgP a.P at_ i.toNat k) 3 a b []).2.1.heard F' ∧ MsO w' W.heap.size p n c (runP (chgP a.P at_ i.toNat k) 3 a b []).2.2 G ∧ Disj F F' ∧ Disj F G ∧ Disj F' G ∧ Below W.heap.size W w')
  have CL := fun (h3 : (at_ / 2).toNat < 3) (W : World) => ptLength_any (at_ / 2).toNat W h3
  have CW1 := fun (W : World) => l1In_any at_ 0 5 W
  have CW2 := fun (W : World) => l1In_any i 0 ((blen (at_ / 2).toNat : Int) - 1) W
  have CE := fun (W : World) => l1In_any k 0 (a.P - 1) W
  have F1 : inB at_ 0 5 = true → at_.tdiv 2 = ((at_ / 2).toNat : Int) ∧ (at_ / 2).toNat < 3 := fun hb => by
    have := inB_true hb
    exact ⟨tdiv_two (by omega), by omega⟩
  have hbl := blen_bd (at_ / 2).toNat
  have HT := fun (h3 : (at_ / 2).toNat < 3) => hT.at (at_ / 2).toNat h3
  unfold rbR
  unfold rbB at CR ⊢
  generalize runP (chgP a.P at_ i.toNat k) 3 a b [] = RR at *
  obtain ⟨s, t, D⟩ := RR
  generalize twoB a b = b1 at *
  generalize inB at_ 0 5 = b2 at *
  generalize inB k 0 (a.P - 1) = b3 at *
  generalize inB i 0 ((blen (at_ / 2).toNat : Int) - 1) = b4 at *
  generalize (at_ / 2).toNat = q at *
  generalize blen q = L at *
  dsimp only at CR
  have tL : IntKind.i64.wrap ((L : Int) - 1) = (L : Int) - 1 := IntWalk.i64_in _ (by omega)
  have tq : q < 3 → IntKind.i64.wrap (q : Int) = (q : Int) := fun h3 => IntWalk.i64_in _ (by omega)
  replace CT := Lib.hid CT
  replace CR := Lib.hid CR
  replace CE := Lib.hid CE
  replace CW1 := Lib.hid CW1
  replace CW2 := Lib.hid CW2
  replace F1 := Lib.hid F1
  replace hP := Lib.hid hP
  replace HT := Lib.hid HT
  replace tq := Lib.hid tq
  replace tL := Lib.hid tL
  replace CL := Lib.hid CL
  have LX := Lib.hid hT
  have LA := Lib.hid h
  have LB := Lib.hid h'
  clear hT h h' hbl
  go_enter Tryd.func35, Tryd.ntmps35
  go_upto_region 1 with fail
  refine Exists.elim (Blk.new_ w (b := w.heap.size) rfl 31 #[.int .i64 a.P, .int .i64 a.party, .int .i64 a.input, .int .i64 a.mask, .int .i64 a.delta, .slice x.sa x.sn x.sc, .slice x.ka x.kn x.kc, .int .i64 a.step, .slice x.ha x.hn x.hc, .int .i64 a.status, .int .i64 a.out]) (fun w1_a0' q => ?_)
  rw [q.1]; have B_a := q.2.1; have s_w1_a0' := q.2.2.1; have u_w1_a0' := q.2.2.2; clear q
  refine Exists.elim (Blk.new_ w1_a0' (b := w.heap.size + 1) s_w1_a0' 31 #[.int .i64 b.P, .int .i64 b.party, .int .i64 b.input, .int .i64 b.mask, .int .i64 b.delta, .slice z.sa z.sn z.sc, .slice z.ka z.kn z.kc, .int .i64 b.step, .slice z.ha z.hn z.hc, .int .i64 b.status, .int .i64 b.out]) (fun w1_a1' q => ?_)
  rw [q.1]; have B_b := q.2.1; have s_w1_a1' := q.2.2.1; have u_w1_a1' := q.2.2.2; clear q
  refine Exists.elim (Blk.new_ w1_a1' (b := w.heap.size + 2) s_w1_a1' 31 #[.int .i64 0, .int .i64 0, .int .i64 0, .int .i64 0, .int .i64 0, .slice none 0 0, .slice none 0 0, .int .i64 0, .slice none 0 0, .int .i64 0, .int .i64 0]) (fun w1_a2' q => ?_)
  rw [q.1]; have B_r := q.2.1; have s_w1_a2' := q.2.2.1; have u_w1_a2' := q.2.2.2; clear q
  refine Exists.elim (Blk.new_ w1_a2' (b := w.heap.size + 3) s_w1_a2' 31 #[.int .i64 0, .int .i64 0, .int .i64 0, .int .i64 0, .int .i64 0, .slice none 0 0, .slice none 0 0, .int .i64 0, .slice none 0 0, .int .i64 0, .int .i64 0]) (fun w1' q => ?_)
  rw [q.1]; have B_q := q.2.1; have s_w1' := q.2.2.1; have u_w1' := q.2.2.2; clear q
  replace B_a := (((B_a.below u_w1_a1').below u_w1_a2').below u_w1')
  replace B_b := ((B_b.below u_w1_a2').below u_w1')
  replace B_r := (B_r.below u_w1')
  have U := (u_w1_a0'.trans ((u_w1_a1'.trans ((u_w1_a2'.trans (u_w1'.mono u_w1_a2'.size)).mono u_w1_a1'.size)).mono u_w1_a0'.size))
  have S_w1' : w.heap.size + 4 ≤ w1'.heap.size := Nat.le_of_eq s_w1'.symm
  have V_w1' := (Below.refl w.heap.size w).trans (U.mono ((Below.refl w.heap.size w)).size)
  clear u_w1_a0' u_w1_a1' u_w1_a2' u_w1' s_w1_a0' s_w1_a1' s_w1_a2' s_w1' U
  try rw [show w.heap.size + 1 + 1 + 1 = w.heap.size + 3 from rfl]
  try rw [show w.heap.size + 1 + 1 = w.heap.size + 2 from rfl]
  have e_a := B_a.all11
  have e_b := B_b.all11
  go_wp2_with fail
  clear e_a e_b
  refine (CT.out _ (LA.out.below V_w1') (LB.out.below V_w1') (LX.out.below V_w1')).mono ?_
  rintro e w2' ⟨rfl, u_w2'⟩
  replace B_a := B_a.below u_w2'
  replace B_b := B_b.below u_w2'
  replace B_r := B_r.below u_w2'
  replace B_q := B_q.below u_w2'
  have S_w2' := u_w2'.size
  have V_w2' : Below w.heap.size w w2' := V_w1'.trans (u_w2'.mono V_w1'.size)
  clear V_w1'
  clear u_w2'
  cases b1
  · skip
    have e_r := B_r.all11
    have f_r := B_r.frz11
    have e_q := B_q.all11
    have f_q := B_q.frz11
    go_wp2_with fail
    clear e_r f_r e_q f_q
    refine Exists.elim (B_r.row11 (.int .i64 0) (.int .i64 0) (.int .i64 0) (.int .i64 0) (.int .i64 0) (.slice none 0 0) (.slice none 0 0) (.int .i64 0) (.slice none 0 0) (.int .i64 0) (.int .i64 0)) (fun w3_11' q => ?_)
    rw [q.1]; replace B_r := q.2.1; have G := q.2.2; clear q
    have V_w3'_0 := (V_w2').trans (G.below (V_w2').size (fun q hq => by have := (V_w2').size; simp at hq; omega))
    replace B_a := B_a.only G (by first | (simp; done) | (simp; omega))
    replace B_b := B_b.only G (by first | (simp; done) | (simp; omega))
    replace B_q := B_q.only G (by first | (simp; done) | (simp; omega))
    have sG0 := G.size
    clear G
    clear V_w2'
    refine Exists.elim (B_q.row11 (.int .i64 0) (.int .i64 0) (.int .i64 0) (.int .i64 0) (.int .i64 0) (.slice none 0 0) (.slice none 0 0) (.int .i64 0) (.slice none 0 0) (.int .i64 0) (.int .i64 0)) (fun w3' q => ?_)
    rw [q.1]; replace B_q := q.2.1; have G := q.2.2; clear q
    have V_w3' := (V_w3'_0).trans (G.below (V_w3'_0).size (fun q hq => by have := (V_w3'_0).size; simp at hq; omega))
    replace B_a := B_a.only G (by first | (simp; done) | (simp; omega))
    replace B_b := B_b.only G (by first | (simp; done) | (simp; omega))
    replace B_r := B_r.only G (by first | (simp; done) | (simp; omega))
    have sG1 := G.size
    clear G
    clear V_w3'_0
    have S_w3' : w2'.heap.size + 0 ≤ w3'.heap.size := by omega
    clear sG0 sG1
    have e_r := B_r.all11
    have e_q := B_q.all11
    exact bodyPost_ret (v := .tuple #[.agg #[.int .i64 0, .int .i64 0, .int .i64 0, .int .i64 0, .int .i64 0, .slice none 0 0, .slice none 0 0, .int .i64 0, .slice none 0 0, .int .i64 0, .int .i64 0], .agg #[.int .i64 0, .int .i64 0, .int .i64 0, .int .i64 0, .int .i64 0, .slice none 0 0, .slice none 0 0, .int .i64 0, .slice none 0 0, .int .i64 0, .int .i64 0], .bool false]) (by simp [results, Tryd.results35, go_sem, e_r, e_q]) rfl (by first | exact ⟨zeroX, [], zeroX, [], rfl, PlO.nil _ _, PlO.nil _ _, Disj.nil_l _, V_w3'⟩ | exact ⟨zeroX, zeroX, rfl, ⟨[], PlO.nil _ _⟩, [], PlO.nil _ _, Disj.nil_l _, V_w3'⟩ | exact ⟨zeroX, [], zeroX, rfl, PlO.nil _ _, [], PlO.nil _ _, Disj.nil_l _, V_w3'⟩)
  obtain ⟨hp1, hp2⟩ := hP.out rfl
  go_wp2_with fail
  refine (CW1.out _).mono ?_
  rintro e w_q ⟨rfl, rfl⟩
  cases b2
  · skip
    have e_r := B_r.all11
    have f_r := B_r.frz11
    have e_q := B_q.all11
    have f_q := B_q.frz11
    go_wp2_with fail
    clear e_r f_r e_q f_q
    refine Exists.elim (B_r.row11 (.int .i64 0) (.int .i64 0) (.int .i64 0) (.int .i64 0) (.int .i64 0) (.slice none 0 0) (.slice none 0 0) (.int .i64 0) (.slice none 0 0) (.int .i64 0) (.int .i64 0)) (fun w4_11' q => ?_)
    rw [q.1]; replace B_r := q.2.1; have G := q.2.2; clear q
    have V_w4'_0 := (V_w2').trans (G.below (V_w2').size (fun q hq => by have := (V_w2').size; simp at hq; omega))
    replace B_a := B_a.only G (by first | (simp; done) | (simp; omega))
    replace B_b := B_b.only G (by first | (simp; done) | (simp; omega))
    replace B_q := B_q.only G (by first | (simp; done) | (simp; omega))
    have sG0 := G.size
    clear G
    clear V_w2'
    refine Exists.elim (B_q.row11 (.int .i64 0) (.int .i64 0) (.int .i64 0) (.int .i64 0) (.int .i64 0) (.slice none 0 0) (.slice none 0 0) (.int .i64 0) (.slice none 0 0) (.int .i64 0) (.int .i64 0)) (fun w4' q => ?_)
    rw [q.1]; replace B_q := q.2.1; have G := q.2.2; clear q
    have V_w4' := (V_w4'_0).trans (G.below (V_w4'_0).size (fun q hq => by have := (V_w4'_0).size; simp at hq; omega))
    replace B_a := B_a.only G (by first | (simp; done) | (simp; omega))
    replace B_b := B_b.only G (by first | (simp; done) | (simp; omega))
    replace B_r := B_r.only G (by first | (simp; done) | (simp; omega))
    have sG1 := G.size
    clear G
    clear V_w4'_0
    have S_w4' : w2'.heap.size + 0 ≤ w4'.heap.size := by omega
    clear sG0 sG1
    have e_r := B_r.all11
    have e_q := B_q.all11
    exact bodyPost_ret (v := .tuple #[.agg #[.int .i64 0, .int .i64 0, .int .i64 0, .int .i64 0, .int .i64 0, .slice none 0 0, .slice none 0 0, .int .i64 0, .slice none 0 0, .int .i64 0, .int .i64 0], .agg #[.int .i64 0, .int .i64 0, .int .i64 0, .int .i64 0, .int .i64 0, .slice none 0 0, .slice none 0 0, .int .i64 0, .slice none 0 0, .int .i64 0, .int .i64 0], .bool false]) (by simp [results, Tryd.results35, go_sem, e_r, e_q]) rfl (by first | exact ⟨zeroX, [], zeroX, [], rfl, PlO.nil _ _, PlO.nil _ _, Disj.nil_l _, V_w4'⟩ | exact ⟨zeroX, zeroX, rfl, ⟨[], PlO.nil _ _⟩, [], PlO.nil _ _, Disj.nil_l _, V_w4'⟩ | exact ⟨zeroX, [], zeroX, rfl, PlO.nil _ _, [], PlO.nil _ _, Disj.nil_l _, V_w4'⟩)
  obtain ⟨hq1, hq2⟩ := F1.out rfl
  have tq1 := tq.out hq2
  have hq3 : (q : Int) < 3 := by omega
  go_wp2_with fail
  refine (CL.out hq2 _).mono ?_
  rintro e w5' ⟨rfl, u_w5'⟩
  replace B_a := B_a.below u_w5'
  replace B_b := B_b.below u_w5'
  replace B_r := B_r.below u_w5'
  replace B_q := B_q.below u_w5'
  have S_w5' := u_w5'.size
  have V_w5' : Below w.heap.size w w5' := V_w2'.trans (u_w5'.mono V_w2'.size)
  clear V_w2'
  clear u_w5'
  have tL1 := tL.out
  go_wp2_with fail
  refine (CW2.out _).mono ?_
  rintro e w_q ⟨rfl, rfl⟩
  clear tL1 tq1
  cases b4
  · skip
    cases b3
    · skip
      have e_r := B_r.all11
      have f_r := B_r.frz11
      have e_q := B_q.all11
      have f_q := B_q.frz11
      go_wp2_with fail
      clear e_r f_r e_q f_q
      refine Exists.elim (B_r.row11 (.int .i64 0) (.int .i64 0) (.int .i64 0) (.int .i64 0) (.int .i64 0) (.slice none 0 0) (.slice none 0 0) (.int .i64 0) (.slice none 0 0) (.int .i64 0) (.int .i64 0)) (fun w6_11' q => ?_)
      rw [q.1]; replace B_r := q.2.1; have G := q.2.2; clear q
      have V_w6'_0 := (V_w5').trans (G.below (V_w5').size (fun q hq => by have := (V_w5').size; simp at hq; omega))
      replace B_a := B_a.only G (by first | (simp; done) | (simp; omega))
      replace B_b := B_b.only G (by first | (simp; done) | (simp; omega))
      replace B_q := B_q.only G (by first | (simp; done) | (simp; omega))
      have sG0 := G.size
      clear G
      clear V_w5'
      refine Exists.elim (B_q.row11 (.int .i64 0) (.int .i64 0) (.int .i64 0) (.int .i64 0) (.int .i64 0) (.slice none 0 0) (.slice none 0 0) (.int .i64 0) (.slice none 0 0) (.int .i64 0) (.int .i64 0)) (fun w6' q => ?_)
      rw [q.1]; replace B_q := q.2.1; have G := q.2.2; clear q
      have V_w6' := (V_w6'_0).trans (G.below (V_w6'_0).size (fun q hq => by have := (V_w6'_0).size; simp at hq; omega))
      replace B_a := B_a.only G (by first | (simp; done) | (simp; omega))
      replace B_b := B_b.only G (by first | (simp; done) | (simp; omega))
      replace B_r := B_r.only G (by first | (simp; done) | (simp; omega))
      have sG1 := G.size
      clear G
      clear V_w6'_0
      have S_w6' : w5'.heap.size + 0 ≤ w6'.heap.size := by omega
      clear sG0 sG1
      have e_r := B_r.all11
      have e_q := B_q.all11
      exact bodyPost_ret (v := .tuple #[.agg #[.int .i64 0, .int .i64 0, .int .i64 0, .int .i64 0, .int .i64 0, .slice none 0 0, .slice none 0 0, .int .i64 0, .slice none 0 0, .int .i64 0, .int .i64 0], .agg #[.int .i64 0, .int .i64 0, .int .i64 0, .int .i64 0, .int .i64 0, .slice none 0 0, .slice none 0 0, .int .i64 0, .slice none 0 0, .int .i64 0, .int .i64 0], .bool false]) (by simp [results, Tryd.results35, go_sem, e_r, e_q]) rfl (by first | exact ⟨zeroX, [], zeroX, [], rfl, PlO.nil _ _, PlO.nil _ _, Disj.nil_l _, V_w6'⟩ | exact ⟨zeroX, zeroX, rfl, ⟨[], PlO.nil _ _⟩, [], PlO.nil _ _, Disj.nil_l _, V_w6'⟩ | exact ⟨zeroX, [], zeroX, rfl, PlO.nil _ _, [], PlO.nil _ _, Disj.nil_l _, V_w6'⟩)
    · skip
      have e_r := B_r.all11
      have f_r := B_r.frz11
      have e_q := B_q.all11
      have f_q := B_q.frz11
      go_wp2_with fail
      clear e_r f_r e_q f_q
      refine Exists.elim (B_r.row11 (.int .i64 0) (.int .i64 0) (.int .i64 0) (.int .i64 0) (.int .i64 0) (.slice none 0 0) (.slice none 0 0) (.int .i64 0) (.slice none 0 0) (.int .i64 0) (.int .i64 0)) (fun w7_11' q => ?_)
      rw [q.1]; replace B_r := q.2.1; have G := q.2.2; clear q
      have V_w7'_0 := (V_w5').trans (G.below (V_w5').size (fun q hq => by have := (V_w5').size; simp at hq; omega))
      replace B_a := B_a.only G (by first | (simp; done) | (simp; omega))
      replace B_b := B_b.only G (by first | (simp; done) | (simp; omega))
      replace B_q := B_q.only G (by first | (simp; done) | (simp; omega))
      have sG0 := G.size
      clear G
      clear V_w5'
      refine Exists.elim (B_q.row11 (.int .i64 0) (.int .i64 0) (.int .i64 0) (.int .i64 0) (.int .i64 0) (.slice none 0 0) (.slice none 0 0) (.int .i64 0) (.slice none 0 0) (.int .i64 0) (.int .i64 0)) (fun w7' q => ?_)
      rw [q.1]; replace B_q := q.2.1; have G := q.2.2; clear q
      have V_w7' := (V_w7'_0).trans (G.below (V_w7'_0).size (fun q hq => by have := (V_w7'_0).size; simp at hq; omega))
      replace B_a := B_a.only G (by first | (simp; done) | (simp; omega))
      replace B_b := B_b.only G (by first | (simp; done) | (simp; omega))
      replace B_r := B_r.only G (by first | (simp; done) | (simp; omega))
      have sG1 := G.size
      clear G
      clear V_w7'_0
      have S_w7' : w5'.heap.size + 0 ≤ w7'.heap.size := by omega
      clear sG0 sG1
      have e_r := B_r.all11
      have e_q := B_q.all11
      exact bodyPost_ret (v := .tuple #[.agg #[.int .i64 0, .int .i64 0, .int .i64 0, .int .i64 0, .int .i64 0, .slice none 0 0, .slice none 0 0, .int .i64 0, .slice none 0 0, .int .i64 0, .int .i64 0], .agg #[.int .i64 0, .int .i64 0, .int .i64 0, .int .i64 0, .int .i64 0, .slice none 0 0, .slice none 0 0, .int .i64 0, .slice none 0 0, .int .i64 0, .int .i64 0], .bool false]) (by simp [results, Tryd.results35, go_sem, e_r, e_q]) rfl (by first | exact ⟨zeroX, [], zeroX, [], rfl, PlO.nil _ _, PlO.nil _ _, Disj.nil_l _, V_w7'⟩ | exact ⟨zeroX, zeroX, rfl, ⟨[], PlO.nil _ _⟩, [], PlO.nil _ _, Disj.nil_l _, V_w7'⟩ | exact ⟨zeroX, [], zeroX, rfl, PlO.nil _ _, [], PlO.nil _ _, Disj.nil_l _, V_w7'⟩)
  have tp : IntKind.i64.wrap (a.P - 1) = a.P - 1 := IntWalk.i64_in _ (by omega)
  have e_a_0 := B_a.a11_0
  go_wp2_with fail
  clear e_a_0
  clear tp
  refine (CE.out _).mono ?_
  rintro e w_q ⟨rfl, rfl⟩
  cases b3
  · skip
    have e_r := B_r.all11
    have f_r := B_r.frz11
    have e_q := B_q.all11
    have f_q := B_q.frz11
    go_wp2_with fail
    clear e_r f_r e_q f_q
    refine Exists.elim (B_r.row11 (.int .i64 0) (.int .i64 0) (.int .i64 0) (.int .i64 0) (.int .i64 0) (.slice none 0 0) (.slice none 0 0) (.int .i64 0) (.slice none 0 0) (.int .i64 0) (.int .i64 0)) (fun w8_11' q => ?_)
    rw [q.1]; replace B_r := q.2.1; have G := q.2.2; clear q
    have V_w8'_0 := (V_w5').trans (G.below (V_w5').size (fun q hq => by have := (V_w5').size; simp at hq; omega))
    replace B_a := B_a.only G (by first | (simp; done) | (simp; omega))
    replace B_b := B_b.only G (by first | (simp; done) | (simp; omega))
    replace B_q := B_q.only G (by first | (simp; done) | (simp; omega))
    have sG0 := G.size
    clear G
    clear V_w5'
    refine Exists.elim (B_q.row11 (.int .i64 0) (.int .i64 0) (.int .i64 0) (.int .i64 0) (.int .i64 0) (.slice none 0 0) (.slice none 0 0) (.int .i64 0) (.slice none 0 0) (.int .i64 0) (.int .i64 0)) (fun w8' q => ?_)
    rw [q.1]; replace B_q := q.2.1; have G := q.2.2; clear q
    have V_w8' := (V_w8'_0).trans (G.below (V_w8'_0).size (fun q hq => by have := (V_w8'_0).size; simp at hq; omega))
    replace B_a := B_a.only G (by first | (simp; done) | (simp; omega))
    replace B_b := B_b.only G (by first | (simp; done) | (simp; omega))
    replace B_r := B_r.only G (by first | (simp; done) | (simp; omega))
    have sG1 := G.size
    clear G
    clear V_w8'_0
    have S_w8' : w5'.heap.size + 0 ≤ w8'.heap.size := by omega
    clear sG0 sG1
    have e_r := B_r.all11
    have e_q := B_q.all11
    exact bodyPost_ret (v := .tuple #[.agg #[.int .i64 0, .int .i64 0, .int .i64 0, .int .i64 0, .int .i64 0, .slice none 0 0, .slice none 0 0, .int .i64 0, .slice none 0 0, .int .i64 0, .int .i64 0], .agg #[.int .i64 0, .int .i64 0, .int .i64 0, .int .i64 0, .int .i64 0, .slice none 0 0, .slice none 0 0, .int .i64 0, .slice none 0 0, .int .i64 0, .int .i64 0], .bool false]) (by simp [results, Tryd.results35, go_sem, e_r, e_q]) rfl (by first | exact ⟨zeroX, [], zeroX, [], rfl, PlO.nil _ _, PlO.nil _ _, Disj.nil_l _, V_w8'⟩ | exact ⟨zeroX, zeroX, rfl, ⟨[], PlO.nil _ _⟩, [], PlO.nil _ _, Disj.nil_l _, V_w8'⟩ | exact ⟨zeroX, [], zeroX, rfl, PlO.nil _ _, [], PlO.nil _ _, Disj.nil_l _, V_w8'⟩)
  replace CR := Lib.hid (CR.out (by first | rfl | trivial))
  have e_a := B_a.all11
  have e_b := B_b.all11
  go_wp2_with fail
  clear e_a e_b
  refine (CR.out _ (LA.out.below V_w5') (LB.out.below V_w5')).mono ?_
  rintro e w5 ⟨y1, F1, y2, F2, p, n, c, G, rfl, o1, o2, om, d1, d2, d3, UX⟩
  clear CR om d2 d3
  replace o1 := o1.lower (b' := w.heap.size + 4) (by omega)
  replace o2 := o2.lower (b' := w.heap.size + 4) (by omega)
  replace B_a := B_a.below UX
  replace B_b := B_b.below UX
  replace B_r := B_r.below UX
  replace B_q := B_q.below UX
  have S_w5 := UX.size
  have V_w5 : Below w.heap.size w w5 := V_w5'.trans (UX.mono V_w5'.size)
  clear V_w5'
  clear UX
  have Q_o1 := Lib.hid o1.feet
  have Q_o2 := Lib.hid o2.feet
  go_upto_region 4 with fail
  refine Exists.elim (Blk.new_ w5 (b := w5.heap.size) rfl 31 #[.int .i64 s.P, .int .i64 s.party, .int .i64 s.input, .int .i64 s.mask, .int .i64 s.delta, .slice y1.sa y1.sn y1.sc, .slice y1.ka y1.kn y1.kc, .int .i64 s.step, .slice y1.ha y1.hn y1.hc, .int .i64 s.status, .int .i64 s.out]) (fun w9_a0' q => ?_)
  rw [q.1]; have B_c := q.2.1; have s_w9_a0' := q.2.2.1; have u_w9_a0' := q.2.2.2; clear q
  refine Exists.elim (Blk.new_ w9_a0' (b := w5.heap.size + 1) s_w9_a0' 31 #[.int .i64 t.P, .int .i64 t.party, .int .i64 t.input, .int .i64 t.mask, .int .i64 t.delta, .slice y2.sa y2.sn y2.sc, .slice y2.ka y2.kn y2.kc, .int .i64 t.step, .slice y2.ha y2.hn y2.hc, .int .i64 t.status, .int .i64 t.out]) (fun w9' q => ?_)
  rw [q.1]; have B_d := q.2.1; have s_w9' := q.2.2.1; have u_w9' := q.2.2.2; clear q
  replace B_c := (B_c.below u_w9')
  have U := (u_w9_a0'.trans (u_w9'.mono u_w9_a0'.size))
  replace B_a := B_a.below U
  replace B_b := B_b.below U
  replace B_r := B_r.below U
  replace B_q := B_q.below U
  replace o1 := o1.below U
  replace o2 := o2.below U
  have S_w9' : w5.heap.size + 2 ≤ w9'.heap.size := Nat.le_of_eq s_w9'.symm
  have V_w9' := V_w5.trans (U.mono (V_w5).size)
  clear u_w9_a0' u_w9' s_w9_a0' s_w9' U V_w5
  replace B_c := Blk.drew B_c
  replace B_d := Blk.drew B_d
  replace B_r := Blk.drew B_r
  replace B_q := Blk.drew B_q
  replace o1 := o1.drew
  replace o2 := o2.drew
  refine wp_region_noPanic ?_
  refine wp_region_held_drew (S := (fun W => Blk W ((w5.heap.size)) 31 #[.int .i64 s.P, .int .i64 s.party, .int .i64 s.input, .int .i64 s.mask, .int .i64 s.delta, .slice y1.sa y1.sn y1.sc, .slice y1.ka y1.kn y1.kc, .int .i64 s.step, .slice y1.ha y1.hn y1.hc, .int .i64 s.status, .int .i64 s.out] ∧ Blk W ((w5.heap.size + 1)) 31 #[.int .i64 t.P, .int .i64 t.party, .int .i64 t.input, .int .i64 t.mask, .int .i64 t.delta, .slice y2.sa y2.sn y2.sc, .slice y2.ka y2.kn y2.kc, .int .i64 t.step, .slice y2.ha y2.hn y2.hc, .int .i64 t.status, .int .i64 t.out])) (by kernel_rfl) ?hS126 (fun hHeld => ?go126)
  case hS126 => exact ⟨B_c, B_d⟩
  refine tk (i := 0) (oi := ⟨some 54, _, _, _, _, _⟩) (v := ?v0_127) hHeld rfl ?y0_127 ?r0_127
  case y0_127 => (intro w hSw; obtain ⟨qS0, qS1⟩ := hSw; have cS0 := qS0.all11; have cS1 := qS1.all11; first | (go_simp; first | done | with_reducible rfl) | with_reducible rfl)
  (try simp only [pt_])
  refine tk (i := 1) (oi := ⟨some 55, _, _, _, _, _⟩) (v := ?v1_128) hHeld rfl ?y1_128 ?r1_128
  case y1_128 => (intro w hSw; obtain ⟨qS0, qS1⟩ := hSw; have cS0 := qS0.all11; have cS1 := qS1.all11; first | (go_simp; first | done | with_reducible rfl) | with_reducible rfl)
  (try simp only [pt_])
  have wdS := (Nat.le_refl w9'.heap.size : w9'.heap.size ≤ w9'.drew.heap.size)
  generalize hwd : w9'.drew = wd at *
  have G_all : Only [w.heap.size + 2, w.heap.size + 3] wd wd := Only.refl _ _
  refine wpAnyH_ready (rs := [2]) (by kernel_rfl) (by simp) ?_
  refine AllReadyH.cons (o := ⟨none, _, _, _, _, _⟩) rfl (fun K hK => ?_) ?_
  refine step_st B_r (by simp [Region.wanted]) _ _ _ (by rfl) (by rfl) (by rfl) (by kernel_rfl) (by rfl) (by simp [Value.oneCell']) ?_
  intro wS2 B_r' G
  replace B_r := B_r'; clear B_r'
  replace B_c := B_c.only G (by first | (simp; done) | (simp; omega))
  replace B_d := B_d.only G (by first | (simp; done) | (simp; omega))
  replace B_q := B_q.only G (by first | (simp; done) | (simp; omega))
  replace o1 := o1.only G (fun q hq hq' => by have := Q_o1.out q hq; simp at hq'; omega)
  replace o2 := o2.only G (fun q hq hq' => by have := Q_o2.out q hq; simp at hq'; omega)
  replace G_all := G_all.trans (G.more (F' := [w.heap.size + 2, w.heap.size + 3]) (by simp))
  clear G
  refine hK.out _ _ ?_ (fun hHeld => ?_)
  · exact ⟨B_c, B_d⟩
  clear hK K
  (try simp only [pt_])
  refine wpAnyH_ready (rs := [3]) (by kernel_rfl) (by simp) ?_
  refine AllReadyH.cons (o := ⟨none, _, _, _, _, _⟩) rfl (fun K hK => ?_) ?_
  refine step_st B_q (by simp [Region.wanted]) _ _ _ (by rfl) (by rfl) (by rfl) (by kernel_rfl) (by rfl) (by simp [Value.oneCell']) ?_
  intro wS3 B_q' G
  replace B_q := B_q'; clear B_q'
  replace B_c := B_c.only G (by first | (simp; done) | (simp; omega))
  replace B_d := B_d.only G (by first | (simp; done) | (simp; omega))
  replace B_r := B_r.only G (by first | (simp; done) | (simp; omega))
  replace o1 := o1.only G (fun q hq hq' => by have := Q_o1.out q hq; simp at hq'; omega)
  replace o2 := o2.only G (fun q hq hq' => by have := Q_o2.out q hq; simp at hq'; omega)
  replace G_all := G_all.trans (G.more (F' := [w.heap.size + 2, w.heap.size + 3]) (by simp))
  clear G
  refine hK.out _ _ ?_ (fun hHeld => ?_)
  · exact ⟨B_c, B_d⟩
  clear hK K
  (try simp only [pt_])
  refine tk (i := 4) (oi := ⟨some 12, _, _, _, _, _⟩) (v := ?v4_129) hHeld rfl ?y4_129 ?r4_129
  case y4_129 => (intro w _; first | (go_simp; first | done | with_reducible rfl) | with_reducible rfl)
  (try simp only [pt_])
  refine wpAnyH_done (by kernel_rfl) ?_ _
  refine NoPanic.normal ?_
  rotate_left 1
  exact AllReadyH.nil
  exact AllReadyH.nil
  have GE := (Only.refl [w.heap.size + 2, w.heap.size + 3] w9').drew.trans (hwd ▸ G_all)
  clear hwd G_all hHeld wdS
  have VE : Below w.heap.size w wS3 := (V_w9').trans (GE.below (by omega) (by intro q hq; simp at hq; omega))
  first | (refine (‹∀ (a : Act) (w : World), Code.wp Tryd.prog Code.ret _ a w → _›) _ _ ?_; refine wp_ret ?_) | go_wp2
  have e_r := B_r.all11
  have e_q := B_q.all11
  exact bodyPost_ret (v := .tuple #[.agg #[.int .i64 s.P, .int .i64 s.party, .int .i64 s.input, .int .i64 s.mask, .int .i64 s.delta, .slice y1.sa y1.sn y1.sc, .slice y1.ka y1.kn y1.kc, .int .i64 s.step, .slice y1.ha y1.hn y1.hc, .int .i64 s.status, .int .i64 s.out], .agg #[.int .i64 t.P, .int .i64 t.party, .int .i64 t.input, .int .i64 t.mask, .int .i64 t.delta, .slice y2.sa y2.sn y2.sc, .slice y2.ka y2.kn y2.kc, .int .i64 t.step, .slice y2.ha y2.hn y2.hc, .int .i64 t.status, .int .i64 t.out], .bool true]) (by simp [results, Tryd.results35, go_sem, e_r, e_q]) rfl (by first | exact ⟨y1, F1, y2, F2, rfl, o1.lower (by omega), o2.lower (by omega), d1, VE⟩ | exact ⟨y1, y2, rfl, F1, o1.lower (by omega), F2, o2.lower (by omega), d1, VE⟩)
end Go.Proofs.YtlmdckcohoddnaaDoor
