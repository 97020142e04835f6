/- Lemmas and walks that the claim's proof rests on, part 19. -/
import Derived.Deep.Slices
import Derived.Deep.Fields
import Derived.ChangeSame
import Derived.ProofKit
import Derived.Test.YtlmdckcohoddnaaDoorK2
import Derived.Test.YtlmdckcohoddnaaDoorK3
import Derived.Test.YtlmdckcohoddnaaDoorK18
namespace Go.Proofs.YtlmdckcohoddnaaDoor
open Go.RowKit
theorem runP_congr {chg chg' : Int → MsD → MsD} (h : ∀ j m, 0 ≤ j → chg j m = chg' j m) : ∀ (n : Nat) (a b : Pl) (l : List MsD), runP chg n a b l = runP chg' n a b l := by
  intro n
  induction n with
  | zero => intro a b l; rfl
  | succ n ih =>
    intro a b l
    unfold runP
    rw [h _ _ (by omega), h _ _ (by omega)]
    dsimp only
    split
    · rfl
    · exact ih _ _ _
def rnR (a b : Pl) : Pl × Pl × List MsD := if twoB a b then runP (fun _ m => m) 3 a b [] else (zeroPl, zeroPl, [])
theorem two_runS {a b : Pl} (h : twoB a b = true) : RunS 0 a b := by
  obtain ⟨h1, h2, _, _, _, h3, h4, h5, h6⟩ := twoB_parts h
  exact ⟨PlN.of h1, PlN.of h2, h3, h4, h5, h6⟩
theorem zero_cnt : cntP zeroPl.shares zeroPl.keys zeroPl.heard ≤ 100 := by decide
theorem runP_msgs (chg : Int → MsD → MsD) : ∀ (n r : Nat) (a b : Pl) (l : List MsD), RunS r a b → r + n ≤ 3 → cntM (runP chg n a b l).2.2 ≤ cntM l + 12 * n := by
  intro n
  induction n with
  | zero => intro r a b l _ _; exact Nat.le_refl _
  | succ n ih =>
    intro r a b l h hr
    have e1 := bodyL_len a h.an (by have := h.sa; omega)
    have e2 := bodyL_len b h.bn (by have := h.sb; omega)
    have b1 := (blen_bd a.step.toNat).2
    have b2 := (blen_bd b.step.toNat).2
    have hc : cntM (l ++ [mesP 0 a, mesP 1 b]) ≤ cntM l + 12 := by
      unfold cntM totM mesP
      simp
      omega
    unfold runP
    dsimp only
    split
    · exact Nat.le_trans hc (by omega)
    · rename_i hn
      cases n with
      | zero => exact Nat.le_trans hc (by omega)
      | succ n => exact Nat.le_trans (ih (r + 1) _ _ _ (h.next (by omega) (fun e => hn (Or.inl e)) (fun e => hn (Or.inr e))) (by omega)) (by omega)
theorem rnR_1 (a b : Pl) : cntP (rnR a b).1.shares (rnR a b).1.keys (rnR a b).1.heard ≤ 100 := by
  unfold rnR
  split
  · rename_i h; exact (runP_n _ 3 0 a b [] (two_runS h) (by omega)).1.cnt
  · exact zero_cnt
theorem rnR_2 (a b : Pl) : cntP (rnR a b).2.1.shares (rnR a b).2.1.keys (rnR a b).2.1.heard ≤ 100 := by
  unfold rnR
  split
  · rename_i h; exact (runP_n _ 3 0 a b [] (two_runS h) (by omega)).2.cnt
  · exact zero_cnt
theorem rnR_3 (a b : Pl) : cntM (rnR a b).2.2 ≤ 100 := by
  unfold rnR
  split
  · rename_i h; have := runP_msgs (fun _ m => m) 3 0 a b [] (two_runS h) (by omega); simp [cntM, totM] at this ⊢; omega
  · decide
theorem rn1_enters (args : Array Value) (W : World) : (callFunc 99 args).run Tryd.prog W = .ok (.enter 99 args) W :=
  enters Tryd.func99 (by kernel_rfl) (by kernel_rfl) args W
theorem rn1_any (at_ fr st : Int) (p : Option Addr) (n c : Nat) (l : List Int) (w : World) (_h : Ints w p n c l) :
    Calls Tryd.prog 99 (#[.int .i64 at_, .agg #[.int .i64 fr, .int .i64 st, .slice p n c]] ++ #[]) w fun e w' => e = .returned (.agg #[.int .i64 fr, .int .i64 st, .slice p n c]) ∧ Below w.heap.size w w' := by
  go_enter Tryd.func99, Tryd.ntmps99
  go_upto_region 1 with fail
  refine Exists.elim (Blk.new_ w (b := w.heap.size) rfl 44 #[.int .i64 fr, .int .i64 st, .slice p n c]) (fun w1_a0' q => ?_)
  rw [q.1]; have B_m := q.2.1; have s_w1_a0' := q.2.2.1; have u_w1_a0' := q.2.2.2; clear q
  refine Exists.elim (Blk.new_ w1_a0' (b := w.heap.size + 1) s_w1_a0' 44 #[.int .i64 0, .int .i64 0, .slice none 0 0]) (fun w1' q => ?_)
  rw [q.1]; have B_r := q.2.1; have s_w1' := q.2.2.1; have u_w1' := q.2.2.2; clear q
  replace B_m := (B_m.below u_w1')
  have U := (u_w1_a0'.trans (u_w1'.mono u_w1_a0'.size))
  have S_w1' : w.heap.size + 2 ≤ w1'.heap.size := Nat.le_of_eq s_w1'.symm
  have V_w1' := (Below.refl w.heap.size w).trans (U.mono ((Below.refl w.heap.size w)).size)
  clear u_w1_a0' u_w1' s_w1_a0' s_w1' U
  have l_m := B_m.ldF (n := 3) rfl
  have e_m_0 := B_m.a3_0
  have e_m_1 := B_m.a3_1
  have e_m_2 := B_m.a3_2
  have l_r := B_r.ldF (n := 3) rfl
  have e_r_0 := B_r.a3_0
  have f_r_0 := B_r.frozen 0
  have e_r_1 := B_r.a3_1
  have f_r_1 := B_r.frozen 1
  have e_r_2 := B_r.a3_2
  have f_r_2 := B_r.frozen 2
  go_wp2_with fail
  clear l_m e_m_0 e_m_1 e_m_2 l_r e_r_0 f_r_0 e_r_1 f_r_1 e_r_2 f_r_2
  refine Exists.elim (B_r.row3 (.int .i64 fr) (.int .i64 st) (.slice p n c)) (fun w2' q => ?_)
  rw [q.1]; replace B_r := q.2.1; have G := q.2.2; clear q
  have V_w2' := (V_w1').trans (G.below (V_w1').size (fun q hq => by have := (V_w1').size; simp at hq; omega))
  replace B_m := B_m.only G (by first | (simp; done) | (simp; omega))
  have sG0 := G.size
  clear G
  clear V_w1'
  have S_w2' : w1'.heap.size + 0 ≤ w2'.heap.size := by omega
  clear sG0
  have l_r := B_r.ldF (n := 3) rfl
  have e_r_0 := B_r.a3_0
  have e_r_1 := B_r.a3_1
  have e_r_2 := B_r.a3_2
  exact bodyPost_ret (v := .agg #[.int .i64 fr, .int .i64 st, .slice p n c]) (by simp [results, Tryd.results99, go_sem, e_r_0, e_r_1, e_r_2]) rfl ⟨rfl, V_w2'⟩
set_option maxHeartbeats 16000000 in
set_option maxRecDepth 100000 in
theorem RunPlayers_any (a : Pl) (x : PlX) (b : Pl) (z : PlX) (w : World) (h : PlR w x a.shares a.keys a.heard) (k : PlR w z b.shares b.keys b.heard) (hT : Tbl w) :
    Calls Tryd.prog 50 #[.agg #[.int .i64 a.P, .int .i64 a.party, .int .i64 a.input, .int .i64 a.mask, .int .i64 a.delta, .slice x.sa x.sn x.sc, .slice x.ka x.kn x.kc, .int .i64 a.step, .slice x.ha x.hn x.hc, .int .i64 a.status, .int .i64 a.out], .agg #[.int .i64 b.P, .int .i64 b.party, .int .i64 b.input, .int .i64 b.mask, .int .i64 b.delta, .slice z.sa z.sn z.sc, .slice z.ka z.kn z.kc, .int .i64 b.step, .slice z.ha z.hn z.hc, .int .i64 b.status, .int .i64 b.out]] w fun e w' => ∃ y F y' F' p n c G, e = .returned (.tuple #[.agg #[.int .i64 (rnR a b).1.P, .int .i64 (rnR a b).1.party, .int .i64 (rnR a b).1.input, .int .i64 (rnR a b).1.mask, .int .i64 (rnR a b).1.delta, .slice y.sa y.sn y.sc, .slice y.ka y.kn y.kc, .int .i64 (rnR a b).1.step, .slice y.ha y.hn y.hc, .int .i64 (rnR a b).1.status, .int .i64 (rnR a b).1.out], .agg #[.int .i64 (rnR a b).2.1.P, .int .i64 (rnR a b).2.1.party, .int .i64 (rnR a b).2.1.input, .int .i64 (rnR a b).2.1.mask, .int .i64 (rnR a b).2.1.delta, .slice y'.sa y'.sn y'.sc, .slice y'.ka y'.kn y'.kc, .int .i64 (rnR a b).2.1.step, .slice y'.ha y'.hn y'.hc, .int .i64 (rnR a b).2.1.status, .int .i64 (rnR a b).2.1.out], .slice p n c, .bool (twoB a b)]) ∧ PlO w' w.heap.size y (rnR a b).1.shares (rnR a b).1.keys (rnR a b).1.heard F ∧ PlO w' w.heap.size y' (rnR a b).2.1.shares (rnR a b).2.1.keys (rnR a b).2.1.heard F' ∧ MsO w' w.heap.size p n c (rnR a b).2.2 G ∧ Disj F F' ∧ Disj F G ∧ Disj F' G ∧ Below w.heap.size w w' := by
  have CT := fun (W : World) (h2 : PlR W x a.shares a.keys a.heard) (k2 : PlR W z b.shares b.keys b.heard) (hT2 : Tbl W) => areTwo_any a x b z W h2 k2 hT2
  have CR := fun (hb : twoB a b = true) (W : World) (h2 : PlR W x a.shares a.keys a.heard) (k2 : PlR W z b.shares b.keys b.heard) (hT2 : Tbl W) =>
    (runPlayers_any 99 rn1_enters #[] (fun _ m => m) a b x z W h2 k2 hT2 (two_runS hb) (twoB_parts hb).2.2.1 [] (fun _ _ => True) [] (fun q hq => by cases hq) (fun q hq => by cases hq) trivial (fun _ _ _ _ _ _ _ _ => trivial)
      (fun W2 _ _ _ at_ fr st p n c l _ _ hI _ _ _ => (rn1_any at_ fr st p n c l W2 hI).mono (fun e W3 hh => by obtain ⟨h1, h2⟩ := hh; exact ⟨p, n, c, h1, hI.below h2, Only.of_below h2, [], trivial, fun q hq => by cases hq⟩))).mono
    (fun e W3 hh => by obtain ⟨y1, F1, y2, F2, p, n, c, G, h1, h3, h4, h5, h6, h7, h8, h9, _⟩ := hh; exact (show ∃ y1 F1 y2 F2 p n c G, _ ∧ _ ∧ _ ∧ _ ∧ _ ∧ _ ∧ _ ∧ Below W.heap.size W W3 from ⟨y1, F1, y2, F2, p, n, c, G, h1, h3, h4, h5, h6, h7, h8, h9.below (Nat.le_refl _) (fun q hq => by cases hq)⟩))
  unfold rnR
  generalize runP (fun _ m => m) 3 a b [] = RR at *
  obtain ⟨s, t, D⟩ := RR
  generalize twoB a b = b0 at *
  dsimp only at CR
  replace CT := Lib.hid CT
  replace CR := Lib.hid CR
  have LX := Lib.hid hT
  have LA := Lib.hid h
  have LB := Lib.hid k
  clear hT h k
  go_enter Tryd.func50, Tryd.ntmps50
  go_upto_region 1 with fail
  refine Exists.elim (Blk.new_ w (b := w.heap.size) rfl 31 #[.int .i64 a.P, .int .i64 a.party, .int .i64 a.input, .int .i64 a.mask, .int .i64 a.delta, .slice x.sa x.sn x.sc, .slice x.ka x.kn x.kc, .int .i64 a.step, .slice x.ha x.hn x.hc, .int .i64 a.status, .int .i64 a.out]) (fun w1_a0' q => ?_)
  rw [q.1]; have B_a := q.2.1; have s_w1_a0' := q.2.2.1; have u_w1_a0' := q.2.2.2; clear q
  refine Exists.elim (Blk.new_ w1_a0' (b := w.heap.size + 1) s_w1_a0' 31 #[.int .i64 b.P, .int .i64 b.party, .int .i64 b.input, .int .i64 b.mask, .int .i64 b.delta, .slice z.sa z.sn z.sc, .slice z.ka z.kn z.kc, .int .i64 b.step, .slice z.ha z.hn z.hc, .int .i64 b.status, .int .i64 b.out]) (fun w1_a1' q => ?_)
  rw [q.1]; have B_b := q.2.1; have s_w1_a1' := q.2.2.1; have u_w1_a1' := q.2.2.2; clear q
  refine Exists.elim (Blk.new_ w1_a1' (b := w.heap.size + 2) s_w1_a1' 31 #[.int .i64 0, .int .i64 0, .int .i64 0, .int .i64 0, .int .i64 0, .slice none 0 0, .slice none 0 0, .int .i64 0, .slice none 0 0, .int .i64 0, .int .i64 0]) (fun w1_a2' q => ?_)
  rw [q.1]; have B_r := q.2.1; have s_w1_a2' := q.2.2.1; have u_w1_a2' := q.2.2.2; clear q
  refine Exists.elim (Blk.new_ w1_a2' (b := w.heap.size + 3) s_w1_a2' 31 #[.int .i64 0, .int .i64 0, .int .i64 0, .int .i64 0, .int .i64 0, .slice none 0 0, .slice none 0 0, .int .i64 0, .slice none 0 0, .int .i64 0, .int .i64 0]) (fun w1' q => ?_)
  rw [q.1]; have B_q := q.2.1; have s_w1' := q.2.2.1; have u_w1' := q.2.2.2; clear q
  replace B_a := (((B_a.below u_w1_a1').below u_w1_a2').below u_w1')
  replace B_b := ((B_b.below u_w1_a2').below u_w1')
  replace B_r := (B_r.below u_w1')
  have U := (u_w1_a0'.trans ((u_w1_a1'.trans ((u_w1_a2'.trans (u_w1'.mono u_w1_a2'.size)).mono u_w1_a1'.size)).mono u_w1_a0'.size))
  have S_w1' : w.heap.size + 4 ≤ w1'.heap.size := Nat.le_of_eq s_w1'.symm
  have V_w1' := (Below.refl w.heap.size w).trans (U.mono ((Below.refl w.heap.size w)).size)
  clear u_w1_a0' u_w1_a1' u_w1_a2' u_w1' s_w1_a0' s_w1_a1' s_w1_a2' s_w1' U
  try rw [show w.heap.size + 1 + 1 + 1 = w.heap.size + 3 from rfl]
  try rw [show w.heap.size + 1 + 1 = w.heap.size + 2 from rfl]
  have l_a := B_a.ldF (n := 11) rfl
  have e_a_0 := B_a.a11_0
  have e_a_1 := B_a.a11_1
  have e_a_2 := B_a.a11_2
  have e_a_3 := B_a.a11_3
  have e_a_4 := B_a.a11_4
  have e_a_5 := B_a.a11_5
  have e_a_6 := B_a.a11_6
  have e_a_7 := B_a.a11_7
  have e_a_8 := B_a.a11_8
  have e_a_9 := B_a.a11_9
  have e_a_10 := B_a.a11_10
  have l_b := B_b.ldF (n := 11) rfl
  have e_b_0 := B_b.a11_0
  have e_b_1 := B_b.a11_1
  have e_b_2 := B_b.a11_2
  have e_b_3 := B_b.a11_3
  have e_b_4 := B_b.a11_4
  have e_b_5 := B_b.a11_5
  have e_b_6 := B_b.a11_6
  have e_b_7 := B_b.a11_7
  have e_b_8 := B_b.a11_8
  have e_b_9 := B_b.a11_9
  have e_b_10 := B_b.a11_10
  go_wp2_with fail
  clear l_a e_a_0 e_a_1 e_a_2 e_a_3 e_a_4 e_a_5 e_a_6 e_a_7 e_a_8 e_a_9 e_a_10 l_b e_b_0 e_b_1 e_b_2 e_b_3 e_b_4 e_b_5 e_b_6 e_b_7 e_b_8 e_b_9 e_b_10
  refine (CT.out _ (LA.out.below V_w1') (LB.out.below V_w1') (LX.out.below V_w1')).mono ?_
  rintro e w2' ⟨rfl, u_w2'⟩
  replace B_a := B_a.below u_w2'
  replace B_b := B_b.below u_w2'
  replace B_r := B_r.below u_w2'
  replace B_q := B_q.below u_w2'
  have S_w2' := u_w2'.size
  have V_w2' : Below w.heap.size w w2' := V_w1'.trans (u_w2'.mono V_w1'.size)
  clear V_w1'
  clear u_w2'
  cases b0
  · skip
    have l_r := B_r.ldF (n := 11) rfl
    have e_r_0 := B_r.a11_0
    have f_r_0 := B_r.frozen 0
    have e_r_1 := B_r.a11_1
    have f_r_1 := B_r.frozen 1
    have e_r_2 := B_r.a11_2
    have f_r_2 := B_r.frozen 2
    have e_r_3 := B_r.a11_3
    have f_r_3 := B_r.frozen 3
    have e_r_4 := B_r.a11_4
    have f_r_4 := B_r.frozen 4
    have e_r_5 := B_r.a11_5
    have f_r_5 := B_r.frozen 5
    have e_r_6 := B_r.a11_6
    have f_r_6 := B_r.frozen 6
    have e_r_7 := B_r.a11_7
    have f_r_7 := B_r.frozen 7
    have e_r_8 := B_r.a11_8
    have f_r_8 := B_r.frozen 8
    have e_r_9 := B_r.a11_9
    have f_r_9 := B_r.frozen 9
    have e_r_10 := B_r.a11_10
    have f_r_10 := B_r.frozen 10
    have l_q := B_q.ldF (n := 11) rfl
    have e_q_0 := B_q.a11_0
    have f_q_0 := B_q.frozen 0
    have e_q_1 := B_q.a11_1
    have f_q_1 := B_q.frozen 1
    have e_q_2 := B_q.a11_2
    have f_q_2 := B_q.frozen 2
    have e_q_3 := B_q.a11_3
    have f_q_3 := B_q.frozen 3
    have e_q_4 := B_q.a11_4
    have f_q_4 := B_q.frozen 4
    have e_q_5 := B_q.a11_5
    have f_q_5 := B_q.frozen 5
    have e_q_6 := B_q.a11_6
    have f_q_6 := B_q.frozen 6
    have e_q_7 := B_q.a11_7
    have f_q_7 := B_q.frozen 7
    have e_q_8 := B_q.a11_8
    have f_q_8 := B_q.frozen 8
    have e_q_9 := B_q.a11_9
    have f_q_9 := B_q.frozen 9
    have e_q_10 := B_q.a11_10
    have f_q_10 := B_q.frozen 10
    go_wp2_with fail
    clear l_r e_r_0 f_r_0 e_r_1 f_r_1 e_r_2 f_r_2 e_r_3 f_r_3 e_r_4 f_r_4 e_r_5 f_r_5 e_r_6 f_r_6 e_r_7 f_r_7 e_r_8 f_r_8 e_r_9 f_r_9 e_r_10 f_r_10 l_q e_q_0 f_q_0 e_q_1 f_q_1 e_q_2 f_q_2 e_q_3 f_q_3 e_q_4 f_q_4 e_q_5 f_q_5 e_q_6 f_q_6 e_q_7 f_q_7 e_q_8 f_q_8 e_q_9 f_q_9 e_q_10 f_q_10
    refine Exists.elim (B_r.row11 (.int .i64 0) (.int .i64 0) (.int .i64 0) (.int .i64 0) (.int .i64 0) (.slice none 0 0) (.slice none 0 0) (.int .i64 0) (.slice none 0 0) (.int .i64 0) (.int .i64 0)) (fun w3_11' q => ?_)
    rw [q.1]; replace B_r := q.2.1; have G := q.2.2; clear q
    have V_w3'_0 := (V_w2').trans (G.below (V_w2').size (fun q hq => by have := (V_w2').size; simp at hq; omega))
    replace B_a := B_a.only G (by first | (simp; done) | (simp; omega))
    replace B_b := B_b.only G (by first | (simp; done) | (simp; omega))
    replace B_q := B_q.only G (by first | (simp; done) | (simp; omega))
    have sG0 := G.size
    clear G
    clear V_w2'
    refine Exists.elim (B_q.row11 (.int .i64 0) (.int .i64 0) (.int .i64 0) (.int .i64 0) (.int .i64 0) (.slice none 0 0) (.slice none 0 0) (.int .i64 0) (.slice none 0 0) (.int .i64 0) (.int .i64 0)) (fun w3' q => ?_)
    rw [q.1]; replace B_q := q.2.1; have G := q.2.2; clear q
    have V_w3' := (V_w3'_0).trans (G.below (V_w3'_0).size (fun q hq => by have := (V_w3'_0).size; simp at hq; omega))
    replace B_a := B_a.only G (by first | (simp; done) | (simp; omega))
    replace B_b := B_b.only G (by first | (simp; done) | (simp; omega))
    replace B_r := B_r.only G (by first | (simp; done) | (simp; omega))
    have sG1 := G.size
    clear G
    clear V_w3'_0
    have S_w3' : w2'.heap.size + 0 ≤ w3'.heap.size := by omega
    clear sG0 sG1
    have l_r := B_r.ldF (n := 11) rfl
    have e_r_0 := B_r.a11_0
    have e_r_1 := B_r.a11_1
    have e_r_2 := B_r.a11_2
    have e_r_3 := B_r.a11_3
    have e_r_4 := B_r.a11_4
    have e_r_5 := B_r.a11_5
    have e_r_6 := B_r.a11_6
    have e_r_7 := B_r.a11_7
    have e_r_8 := B_r.a11_8
    have e_r_9 := B_r.a11_9
    have e_r_10 := B_r.a11_10
    have l_q := B_q.ldF (n := 11) rfl
    have e_q_0 := B_q.a11_0
    have e_q_1 := B_q.a11_1
    have e_q_2 := B_q.a11_2
    have e_q_3 := B_q.a11_3
    have e_q_4 := B_q.a11_4
    have e_q_5 := B_q.a11_5
    have e_q_6 := B_q.a11_6
    have e_q_7 := B_q.a11_7
    have e_q_8 := B_q.a11_8
    have e_q_9 := B_q.a11_9
    have e_q_10 := B_q.a11_10
    exact bodyPost_ret (v := .tuple #[.agg #[.int .i64 0, .int .i64 0, .int .i64 0, .int .i64 0, .int .i64 0, .slice none 0 0, .slice none 0 0, .int .i64 0, .slice none 0 0, .int .i64 0, .int .i64 0], .agg #[.int .i64 0, .int .i64 0, .int .i64 0, .int .i64 0, .int .i64 0, .slice none 0 0, .slice none 0 0, .int .i64 0, .slice none 0 0, .int .i64 0, .int .i64 0], .slice none 0 0, .bool false]) (by simp [results, Tryd.results50, go_sem, e_r_0, e_r_1, e_r_2, e_r_3, e_r_4, e_r_5, e_r_6, e_r_7, e_r_8, e_r_9, e_r_10, e_q_0, e_q_1, e_q_2, e_q_3, e_q_4, e_q_5, e_q_6, e_q_7, e_q_8, e_q_9, e_q_10]) rfl (by first | exact ⟨zeroX, [], zeroX, [], none, 0, 0, rfl, PlO.nil _ _, PlO.nil _ _, [], MsO.nil _ _ _, Disj.nil_l _, Disj.nil_l _, Disj.nil_l _, V_w3'⟩ | exact ⟨zeroX, [], zeroX, [], none, 0, 0, [], rfl, PlO.nil _ _, PlO.nil _ _, MsO.nil _ _ _, Disj.nil_l _, Disj.nil_l _, Disj.nil_l _, V_w3'⟩)
  replace CR := Lib.hid (CR.out (by first | rfl | trivial))
  have l_a := B_a.ldF (n := 11) rfl
  have e_a_0 := B_a.a11_0
  have e_a_1 := B_a.a11_1
  have e_a_2 := B_a.a11_2
  have e_a_3 := B_a.a11_3
  have e_a_4 := B_a.a11_4
  have e_a_5 := B_a.a11_5
  have e_a_6 := B_a.a11_6
  have e_a_7 := B_a.a11_7
  have e_a_8 := B_a.a11_8
  have e_a_9 := B_a.a11_9
  have e_a_10 := B_a.a11_10
  have l_b := B_b.ldF (n := 11) rfl
  have e_b_0 := B_b.a11_0
  have e_b_1 := B_b.a11_1
  have e_b_2 := B_b.a11_2
  have e_b_3 := B_b.a11_3
  have e_b_4 := B_b.a11_4
  have e_b_5 := B_b.a11_5
  have e_b_6 := B_b.a11_6
  have e_b_7 := B_b.a11_7
  have e_b_8 := B_b.a11_8
  have e_b_9 := B_b.a11_9
  have e_b_10 := B_b.a11_10
  go_wp2_with fail
  clear l_a e_a_0 e_a_1 e_a_2 e_a_3 e_a_4 e_a_5 e_a_6 e_a_7 e_a_8 e_a_9 e_a_10 l_b e_b_0 e_b_1 e_b_2 e_b_3 e_b_4 e_b_5 e_b_6 e_b_7 e_b_8 e_b_9 e_b_10
  refine (CR.out _ (LA.out.below V_w2') (LB.out.below V_w2') (LX.out.below V_w2')).mono ?_
  rintro e w5 ⟨y1, F1, y2, F2, p, n, c, G, rfl, o1, o2, om, d1, d2, d3, UX⟩
  clear CR
  replace o1 := o1.lower (b' := w.heap.size + 4) (by omega)
  replace o2 := o2.lower (b' := w.heap.size + 4) (by omega)
  replace om := om.lower (b' := w.heap.size + 4) (by omega)
  replace B_a := B_a.below UX
  replace B_b := B_b.below UX
  replace B_r := B_r.below UX
  replace B_q := B_q.below UX
  have S_w5 := UX.size
  have V_w5 : Below w.heap.size w w5 := V_w2'.trans (UX.mono V_w2'.size)
  clear V_w2'
  clear UX
  have Q_o1 := Lib.hid o1.feet
  have Q_o2 := Lib.hid o2.feet
  have Q_om := Lib.hid om.feet
  go_upto_region 4 with fail
  refine Exists.elim (Blk.new_ w5 (b := w5.heap.size) rfl 31 #[.int .i64 s.P, .int .i64 s.party, .int .i64 s.input, .int .i64 s.mask, .int .i64 s.delta, .slice y1.sa y1.sn y1.sc, .slice y1.ka y1.kn y1.kc, .int .i64 s.step, .slice y1.ha y1.hn y1.hc, .int .i64 s.status, .int .i64 s.out]) (fun w4_a0' q => ?_)
  rw [q.1]; have B_c := q.2.1; have s_w4_a0' := q.2.2.1; have u_w4_a0' := q.2.2.2; clear q
  refine Exists.elim (Blk.new_ w4_a0' (b := w5.heap.size + 1) s_w4_a0' 31 #[.int .i64 t.P, .int .i64 t.party, .int .i64 t.input, .int .i64 t.mask, .int .i64 t.delta, .slice y2.sa y2.sn y2.sc, .slice y2.ka y2.kn y2.kc, .int .i64 t.step, .slice y2.ha y2.hn y2.hc, .int .i64 t.status, .int .i64 t.out]) (fun w4' q => ?_)
  rw [q.1]; have B_d := q.2.1; have s_w4' := q.2.2.1; have u_w4' := q.2.2.2; clear q
  replace B_c := (B_c.below u_w4')
  have U := (u_w4_a0'.trans (u_w4'.mono u_w4_a0'.size))
  replace B_a := B_a.below U
  replace B_b := B_b.below U
  replace B_r := B_r.below U
  replace B_q := B_q.below U
  replace o1 := o1.below U
  replace o2 := o2.below U
  replace om := om.below U
  have S_w4' : w5.heap.size + 2 ≤ w4'.heap.size := Nat.le_of_eq s_w4'.symm
  have V_w4' := V_w5.trans (U.mono (V_w5).size)
  clear u_w4_a0' u_w4' s_w4_a0' s_w4' U V_w5
  replace B_c := Blk.drew B_c
  replace B_d := Blk.drew B_d
  replace B_r := Blk.drew B_r
  replace B_q := Blk.drew B_q
  replace o1 := o1.drew
  replace o2 := o2.drew
  replace om := om.drew
  refine wp_region_noPanic ?_
  refine wp_region_held_drew (S := (fun W => Blk W ((w5.heap.size)) 31 #[.int .i64 s.P, .int .i64 s.party, .int .i64 s.input, .int .i64 s.mask, .int .i64 s.delta, .slice y1.sa y1.sn y1.sc, .slice y1.ka y1.kn y1.kc, .int .i64 s.step, .slice y1.ha y1.hn y1.hc, .int .i64 s.status, .int .i64 s.out] ∧ Blk W ((w5.heap.size + 1)) 31 #[.int .i64 t.P, .int .i64 t.party, .int .i64 t.input, .int .i64 t.mask, .int .i64 t.delta, .slice y2.sa y2.sn y2.sc, .slice y2.ka y2.kn y2.kc, .int .i64 t.step, .slice y2.ha y2.hn y2.hc, .int .i64 t.status, .int .i64 t.out])) (by kernel_rfl) ?hS1 (fun hHeld => ?go1)
  case hS1 => exact ⟨B_c, B_d⟩
  refine wpAnyH_take (i := 0) (oi := { dst := some 24, op := _, type := _, pos := _, after := _, guard := _ }) (v := ?v0_2) rfl (by kernel_rfl) (by kernel_rfl) (by kernel_rfl) (fun _ _ _ h => h) (Or.inl ⟨by rfl, ?hy0_2⟩) hHeld ?rest0_2
  case hy0_2 => (intro w hSw; obtain ⟨qS0, qS1⟩ := hSw; first | (have lS0 := qS0.ldF (n := 11) rfl; have lS1 := qS1.ldF (n := 11) rfl; go_simp; done) | (have lS0 := qS0.ldF (n := 11) rfl; have lS1 := qS1.ldF (n := 11) rfl; go_simp; with_reducible rfl) | (have cS0_0 := qS0.cell 0; have cS0_1 := qS0.cell 1; have cS0_2 := qS0.cell 2; have cS0_3 := qS0.cell 3; have cS0_4 := qS0.cell 4; have cS0_5 := qS0.cell 5; have cS0_6 := qS0.cell 6; have cS0_7 := qS0.cell 7; have cS0_8 := qS0.cell 8; have cS0_9 := qS0.cell 9; have cS0_10 := qS0.cell 10; have cS1_0 := qS1.cell 0; have cS1_1 := qS1.cell 1; have cS1_2 := qS1.cell 2; have cS1_3 := qS1.cell 3; have cS1_4 := qS1.cell 4; have cS1_5 := qS1.cell 5; have cS1_6 := qS1.cell 6; have cS1_7 := qS1.cell 7; have cS1_8 := qS1.cell 8; have cS1_9 := qS1.cell 9; have cS1_10 := qS1.cell 10; go_simp; done) | (have cS0_0 := qS0.cell 0; have cS0_1 := qS0.cell 1; have cS0_2 := qS0.cell 2; have cS0_3 := qS0.cell 3; have cS0_4 := qS0.cell 4; have cS0_5 := qS0.cell 5; have cS0_6 := qS0.cell 6; have cS0_7 := qS0.cell 7; have cS0_8 := qS0.cell 8; have cS0_9 := qS0.cell 9; have cS0_10 := qS0.cell 10; have cS1_0 := qS1.cell 0; have cS1_1 := qS1.cell 1; have cS1_2 := qS1.cell 2; have cS1_3 := qS1.cell 3; have cS1_4 := qS1.cell 4; have cS1_5 := qS1.cell 5; have cS1_6 := qS1.cell 6; have cS1_7 := qS1.cell 7; have cS1_8 := qS1.cell 8; have cS1_9 := qS1.cell 9; have cS1_10 := qS1.cell 10; go_simp; with_reducible rfl) | (with_reducible rfl))
  (try simp only [Act.put, List.setIfInBounds_toArray, List.set_cons_zero, List.set_cons_succ])
  refine wpAnyH_take (i := 1) (oi := { dst := some 25, op := _, type := _, pos := _, after := _, guard := _ }) (v := ?v1_3) rfl (by kernel_rfl) (by kernel_rfl) (by kernel_rfl) (fun _ _ _ h => h) (Or.inl ⟨by rfl, ?hy1_3⟩) hHeld ?rest1_3
  case hy1_3 => (intro w hSw; obtain ⟨qS0, qS1⟩ := hSw; first | (have lS0 := qS0.ldF (n := 11) rfl; have lS1 := qS1.ldF (n := 11) rfl; go_simp; done) | (have lS0 := qS0.ldF (n := 11) rfl; have lS1 := qS1.ldF (n := 11) rfl; go_simp; with_reducible rfl) | (have cS0_0 := qS0.cell 0; have cS0_1 := qS0.cell 1; have cS0_2 := qS0.cell 2; have cS0_3 := qS0.cell 3; have cS0_4 := qS0.cell 4; have cS0_5 := qS0.cell 5; have cS0_6 := qS0.cell 6; have cS0_7 := qS0.cell 7; have cS0_8 := qS0.cell 8; have cS0_9 := qS0.cell 9; have cS0_10 := qS0.cell 10; have cS1_0 := qS1.cell 0; have cS1_1 := qS1.cell 1; have cS1_2 := qS1.cell 2; have cS1_3 := qS1.cell 3; have cS1_4 := qS1.cell 4; have cS1_5 := qS1.cell 5; have cS1_6 := qS1.cell 6; have cS1_7 := qS1.cell 7; have cS1_8 := qS1.cell 8; have cS1_9 := qS1.cell 9; have cS1_10 := qS1.cell 10; go_simp; done) | (have cS0_0 := qS0.cell 0; have cS0_1 := qS0.cell 1; have cS0_2 := qS0.cell 2; have cS0_3 := qS0.cell 3; have cS0_4 := qS0.cell 4; have cS0_5 := qS0.cell 5; have cS0_6 := qS0.cell 6; have cS0_7 := qS0.cell 7; have cS0_8 := qS0.cell 8; have cS0_9 := qS0.cell 9; have cS0_10 := qS0.cell 10; have cS1_0 := qS1.cell 0; have cS1_1 := qS1.cell 1; have cS1_2 := qS1.cell 2; have cS1_3 := qS1.cell 3; have cS1_4 := qS1.cell 4; have cS1_5 := qS1.cell 5; have cS1_6 := qS1.cell 6; have cS1_7 := qS1.cell 7; have cS1_8 := qS1.cell 8; have cS1_9 := qS1.cell 9; have cS1_10 := qS1.cell 10; go_simp; with_reducible rfl) | (with_reducible rfl))
  (try simp only [Act.put, List.setIfInBounds_toArray, List.set_cons_zero, List.set_cons_succ])
  refine wpAnyH_take (i := 2) (oi := { dst := some 26, op := _, type := _, pos := _, after := _, guard := _ }) (v := ?v2_4) rfl (by kernel_rfl) (by kernel_rfl) (by kernel_rfl) (fun _ _ _ h => h) (Or.inl ⟨by rfl, ?hy2_4⟩) hHeld ?rest2_4
  case hy2_4 => (intro w _; first | (go_simp; done) | (go_simp; with_reducible rfl) | (with_reducible rfl))
  (try simp only [Act.put, List.setIfInBounds_toArray, List.set_cons_zero, List.set_cons_succ])
  have wdS := (Nat.le_refl w4'.heap.size : w4'.heap.size ≤ w4'.drew.heap.size)
  generalize hwd : w4'.drew = wd at *
  have G_all : Only [w.heap.size + 2, w.heap.size + 3] wd wd := Only.refl _ _
  refine wpAnyH_ready (rs := [3]) (by kernel_rfl) (by simp) ?_
  refine AllReadyH.cons (o := { dst := none, op := _, type := _, pos := _, after := _, guard := _ }) rfl (fun K hK => ?_) ?_
  refine step_st B_r (by simp [Region.wanted]) _ _ _ (by rfl) (by rfl) (by rfl) (by kernel_rfl) (by rfl) (by simp [Value.oneCell']) ?_
  intro wS3 B_r' G
  replace B_r := B_r'; clear B_r'
  replace B_c := B_c.only G (by first | (simp; done) | (simp; omega))
  replace B_d := B_d.only G (by first | (simp; done) | (simp; omega))
  replace B_q := B_q.only G (by first | (simp; done) | (simp; omega))
  replace o1 := o1.only G (fun q hq hq' => by have := Q_o1.out q hq; simp at hq'; omega)
  replace o2 := o2.only G (fun q hq hq' => by have := Q_o2.out q hq; simp at hq'; omega)
  replace om := om.only G (fun q hq hq' => by have := Q_om.out q hq; simp at hq'; omega)
  replace G_all := G_all.trans (G.more (F' := [w.heap.size + 2, w.heap.size + 3]) (by simp))
  clear G
  refine hK.out _ _ ?_ (fun hHeld => ?_)
  · exact ⟨B_c, B_d⟩
  clear hK K
  (try simp only [Act.put])
  refine wpAnyH_ready (rs := [4]) (by kernel_rfl) (by simp) ?_
  refine AllReadyH.cons (o := { dst := none, op := _, type := _, pos := _, after := _, guard := _ }) rfl (fun K hK => ?_) ?_
  refine step_st B_q (by simp [Region.wanted]) _ _ _ (by rfl) (by rfl) (by rfl) (by kernel_rfl) (by rfl) (by simp [Value.oneCell']) ?_
  intro wS4 B_q' G
  replace B_q := B_q'; clear B_q'
  replace B_c := B_c.only G (by first | (simp; done) | (simp; omega))
  replace B_d := B_d.only G (by first | (simp; done) | (simp; omega))
  replace B_r := B_r.only G (by first | (simp; done) | (simp; omega))
  replace o1 := o1.only G (fun q hq hq' => by have := Q_o1.out q hq; simp at hq'; omega)
  replace o2 := o2.only G (fun q hq hq' => by have := Q_o2.out q hq; simp at hq'; omega)
  replace om := om.only G (fun q hq hq' => by have := Q_om.out q hq; simp at hq'; omega)
  replace G_all := G_all.trans (G.more (F' := [w.heap.size + 2, w.heap.size + 3]) (by simp))
  clear G
  refine hK.out _ _ ?_ (fun hHeld => ?_)
  · exact ⟨B_c, B_d⟩
  clear hK K
  (try simp only [Act.put])
  refine wpAnyH_take (i := 5) (oi := { dst := some 6, op := _, type := _, pos := _, after := _, guard := _ }) (v := ?v5_5) rfl (by kernel_rfl) (by kernel_rfl) (by kernel_rfl) (fun _ _ _ h => h) (Or.inl ⟨by rfl, ?hy5_5⟩) hHeld ?rest5_5
  case hy5_5 => (intro w _; first | (go_simp; done) | (go_simp; with_reducible rfl) | (with_reducible rfl))
  (try simp only [Act.put, List.setIfInBounds_toArray, List.set_cons_zero, List.set_cons_succ])
  refine wpAnyH_take (i := 6) (oi := { dst := some 7, op := _, type := _, pos := _, after := _, guard := _ }) (v := ?v6_6) rfl (by kernel_rfl) (by kernel_rfl) (by kernel_rfl) (fun _ _ _ h => h) (Or.inl ⟨by rfl, ?hy6_6⟩) hHeld ?rest6_6
  case hy6_6 => (intro w _; first | (go_simp; done) | (go_simp; with_reducible rfl) | (with_reducible rfl))
  (try simp only [Act.put, List.setIfInBounds_toArray, List.set_cons_zero, List.set_cons_succ])
  refine wpAnyH_done (by kernel_rfl) ?_ _
  refine NoPanic.normal ?_
  rotate_left 1
  exact AllReadyH.nil
  exact AllReadyH.nil
  have GE := (Only.refl [w.heap.size + 2, w.heap.size + 3] w4').drew.trans (hwd ▸ G_all)
  clear hwd G_all hHeld wdS
  have VE : Below w.heap.size w wS4 := (V_w4').trans (GE.below (by omega) (by intro q hq; simp at hq; omega))
  first | (refine (‹∀ (a : Act) (w : World), Code.wp Tryd.prog Code.ret _ a w → _›) _ _ ?_; refine wp_ret ?_) | go_wp2
  have e_r_0 := B_r.cell 0
  have e_r_1 := B_r.cell 1
  have e_r_2 := B_r.cell 2
  have e_r_3 := B_r.cell 3
  have e_r_4 := B_r.cell 4
  have e_r_5 := B_r.cell 5
  have e_r_6 := B_r.cell 6
  have e_r_7 := B_r.cell 7
  have e_r_8 := B_r.cell 8
  have e_r_9 := B_r.cell 9
  have e_r_10 := B_r.cell 10
  have e_q_0 := B_q.cell 0
  have e_q_1 := B_q.cell 1
  have e_q_2 := B_q.cell 2
  have e_q_3 := B_q.cell 3
  have e_q_4 := B_q.cell 4
  have e_q_5 := B_q.cell 5
  have e_q_6 := B_q.cell 6
  have e_q_7 := B_q.cell 7
  have e_q_8 := B_q.cell 8
  have e_q_9 := B_q.cell 9
  have e_q_10 := B_q.cell 10
  exact bodyPost_ret (v := .tuple #[.agg #[.int .i64 s.P, .int .i64 s.party, .int .i64 s.input, .int .i64 s.mask, .int .i64 s.delta, .slice y1.sa y1.sn y1.sc, .slice y1.ka y1.kn y1.kc, .int .i64 s.step, .slice y1.ha y1.hn y1.hc, .int .i64 s.status, .int .i64 s.out], .agg #[.int .i64 t.P, .int .i64 t.party, .int .i64 t.input, .int .i64 t.mask, .int .i64 t.delta, .slice y2.sa y2.sn y2.sc, .slice y2.ka y2.kn y2.kc, .int .i64 t.step, .slice y2.ha y2.hn y2.hc, .int .i64 t.status, .int .i64 t.out], .slice p n c, .bool true]) (by simp [results, Tryd.results50, go_sem, e_r_0, e_r_1, e_r_2, e_r_3, e_r_4, e_r_5, e_r_6, e_r_7, e_r_8, e_r_9, e_r_10, e_q_0, e_q_1, e_q_2, e_q_3, e_q_4, e_q_5, e_q_6, e_q_7, e_q_8, e_q_9, e_q_10]) rfl (by first | exact ⟨y1, F1, y2, F2, p, n, c, G, rfl, o1.lower (by omega), o2.lower (by omega), om.lower (by omega), d1, d2, d3, VE⟩ | exact ⟨y1, F1, y2, F2, p, n, c, rfl, o1.lower (by omega), o2.lower (by omega), G, om.lower (by omega), d1, d2, d3, VE⟩)
set_option maxHeartbeats 16000000 in
set_option maxRecDepth 100000 in
theorem spec_RunPlayers_any (a : Pl) (x : PlX) (b : Pl) (z : PlX) (w : World) (h : PlR w x a.shares a.keys a.heard) (k : PlR w z b.shares b.keys b.heard) (hT : Tbl w) :
    Calls Tryd.prog 49 #[.agg #[.int .i64 a.P, .int .i64 a.party, .int .i64 a.input, .int .i64 a.mask, .int .i64 a.delta, .slice x.sa x.sn x.sc, .slice x.ka x.kn x.kc, .int .i64 a.step, .slice x.ha x.hn x.hc, .int .i64 a.status, .int .i64 a.out], .agg #[.int .i64 b.P, .int .i64 b.party, .int .i64 b.input, .int .i64 b.mask, .int .i64 b.delta, .slice z.sa z.sn z.sc, .slice z.ka z.kn z.kc, .int .i64 b.step, .slice z.ha z.hn z.hc, .int .i64 b.status, .int .i64 b.out]] w fun e w' => ∃ y F y' F' p n c G, e = .returned (.tuple #[.agg #[.int .i64 (rnR a b).1.P, .int .i64 (rnR a b).1.party, .int .i64 (rnR a b).1.input, .int .i64 (rnR a b).1.mask, .int .i64 (rnR a b).1.delta, .slice y.sa y.sn y.sc, .slice y.ka y.kn y.kc, .int .i64 (rnR a b).1.step, .slice y.ha y.hn y.hc, .int .i64 (rnR a b).1.status, .int .i64 (rnR a b).1.out], .agg #[.int .i64 (rnR a b).2.1.P, .int .i64 (rnR a b).2.1.party, .int .i64 (rnR a b).2.1.input, .int .i64 (rnR a b).2.1.mask, .int .i64 (rnR a b).2.1.delta, .slice y'.sa y'.sn y'.sc, .slice y'.ka y'.kn y'.kc, .int .i64 (rnR a b).2.1.step, .slice y'.ha y'.hn y'.hc, .int .i64 (rnR a b).2.1.status, .int .i64 (rnR a b).2.1.out], .slice p n c, .bool (twoB a b)]) ∧ PlO w' w.heap.size y (rnR a b).1.shares (rnR a b).1.keys (rnR a b).1.heard F ∧ PlO w' w.heap.size y' (rnR a b).2.1.shares (rnR a b).2.1.keys (rnR a b).2.1.heard F' ∧ MsO w' w.heap.size p n c (rnR a b).2.2 G ∧ Disj F F' ∧ Disj F G ∧ Disj F' G ∧ Below w.heap.size w w' := by
  have CT := fun (W : World) (h2 : PlR W x a.shares a.keys a.heard) (k2 : PlR W z b.shares b.keys b.heard) (hT2 : Tbl W) => ptBoth_any a x b z W h2 k2 hT2
  have CR := fun (hb : twoB a b = true) (W : World) (h2 : PlR W x a.shares a.keys a.heard) (k2 : PlR W z b.shares b.keys b.heard) =>
    ptRun_any a b x z (-1) 0 0 W h2 k2 (two_runS hb) (twoB_parts hb).2.2.1 (twoB_parts hb).2.2.2.1 (twoB_parts hb).2.2.2.2.1 (Or.inl rfl)
  rw [show runP (chgP a.P (-1) 0 0) 3 a b [] = runP (fun _ m => m) 3 a b [] from runP_congr (fun j m hj => by unfold chgP; rw [if_neg (by omega)]) 3 a b []] at CR
  unfold rnR
  generalize runP (fun _ m => m) 3 a b [] = RR at *
  obtain ⟨s, t, D⟩ := RR
  generalize twoB a b = b0 at *
  dsimp only at CR
  replace CT := Lib.hid CT
  replace CR := Lib.hid CR
  have LX := Lib.hid hT
  have LA := Lib.hid h
  have LB := Lib.hid k
  clear hT h k
  go_enter Tryd.func49, Tryd.ntmps49
  go_upto_region 1 with fail
  refine Exists.elim (Blk.new_ w (b := w.heap.size) rfl 31 #[.int .i64 a.P, .int .i64 a.party, .int .i64 a.input, .int .i64 a.mask, .int .i64 a.delta, .slice x.sa x.sn x.sc, .slice x.ka x.kn x.kc, .int .i64 a.step, .slice x.ha x.hn x.hc, .int .i64 a.status, .int .i64 a.out]) (fun w1_a0' q => ?_)
  rw [q.1]; have B_a := q.2.1; have s_w1_a0' := q.2.2.1; have u_w1_a0' := q.2.2.2; clear q
  refine Exists.elim (Blk.new_ w1_a0' (b := w.heap.size + 1) s_w1_a0' 31 #[.int .i64 b.P, .int .i64 b.party, .int .i64 b.input, .int .i64 b.mask, .int .i64 b.delta, .slice z.sa z.sn z.sc, .slice z.ka z.kn z.kc, .int .i64 b.step, .slice z.ha z.hn z.hc, .int .i64 b.status, .int .i64 b.out]) (fun w1_a1' q => ?_)
  rw [q.1]; have B_b := q.2.1; have s_w1_a1' := q.2.2.1; have u_w1_a1' := q.2.2.2; clear q
  refine Exists.elim (Blk.new_ w1_a1' (b := w.heap.size + 2) s_w1_a1' 31 #[.int .i64 0, .int .i64 0, .int .i64 0, .int .i64 0, .int .i64 0, .slice none 0 0, .slice none 0 0, .int .i64 0, .slice none 0 0, .int .i64 0, .int .i64 0]) (fun w1_a2' q => ?_)
  rw [q.1]; have B_r := q.2.1; have s_w1_a2' := q.2.2.1; have u_w1_a2' := q.2.2.2; clear q
  refine Exists.elim (Blk.new_ w1_a2' (b := w.heap.size + 3) s_w1_a2' 31 #[.int .i64 0, .int .i64 0, .int .i64 0, .int .i64 0, .int .i64 0, .slice none 0 0, .slice none 0 0, .int .i64 0, .slice none 0 0, .int .i64 0, .int .i64 0]) (fun w1' q => ?_)
  rw [q.1]; have B_q := q.2.1; have s_w1' := q.2.2.1; have u_w1' := q.2.2.2; clear q
  replace B_a := (((B_a.below u_w1_a1').below u_w1_a2').below u_w1')
  replace B_b := ((B_b.below u_w1_a2').below u_w1')
  replace B_r := (B_r.below u_w1')
  have U := (u_w1_a0'.trans ((u_w1_a1'.trans ((u_w1_a2'.trans (u_w1'.mono u_w1_a2'.size)).mono u_w1_a1'.size)).mono u_w1_a0'.size))
  have S_w1' : w.heap.size + 4 ≤ w1'.heap.size := Nat.le_of_eq s_w1'.symm
  have V_w1' := (Below.refl w.heap.size w).trans (U.mono ((Below.refl w.heap.size w)).size)
  clear u_w1_a0' u_w1_a1' u_w1_a2' u_w1' s_w1_a0' s_w1_a1' s_w1_a2' s_w1' U
  try rw [show w.heap.size + 1 + 1 + 1 = w.heap.size + 3 from rfl]
  try rw [show w.heap.size + 1 + 1 = w.heap.size + 2 from rfl]
  have l_a := B_a.ldF (n := 11) rfl
  have e_a_0 := B_a.a11_0
  have e_a_1 := B_a.a11_1
  have e_a_2 := B_a.a11_2
  have e_a_3 := B_a.a11_3
  have e_a_4 := B_a.a11_4
  have e_a_5 := B_a.a11_5
  have e_a_6 := B_a.a11_6
  have e_a_7 := B_a.a11_7
  have e_a_8 := B_a.a11_8
  have e_a_9 := B_a.a11_9
  have e_a_10 := B_a.a11_10
  have l_b := B_b.ldF (n := 11) rfl
  have e_b_0 := B_b.a11_0
  have e_b_1 := B_b.a11_1
  have e_b_2 := B_b.a11_2
  have e_b_3 := B_b.a11_3
  have e_b_4 := B_b.a11_4
  have e_b_5 := B_b.a11_5
  have e_b_6 := B_b.a11_6
  have e_b_7 := B_b.a11_7
  have e_b_8 := B_b.a11_8
  have e_b_9 := B_b.a11_9
  have e_b_10 := B_b.a11_10
  go_wp2_with fail
  clear l_a e_a_0 e_a_1 e_a_2 e_a_3 e_a_4 e_a_5 e_a_6 e_a_7 e_a_8 e_a_9 e_a_10 l_b e_b_0 e_b_1 e_b_2 e_b_3 e_b_4 e_b_5 e_b_6 e_b_7 e_b_8 e_b_9 e_b_10
  refine (CT.out _ (LA.out.below V_w1') (LB.out.below V_w1') (LX.out.below V_w1')).mono ?_
  rintro e w2' ⟨rfl, u_w2'⟩
  replace B_a := B_a.below u_w2'
  replace B_b := B_b.below u_w2'
  replace B_r := B_r.below u_w2'
  replace B_q := B_q.below u_w2'
  have S_w2' := u_w2'.size
  have V_w2' : Below w.heap.size w w2' := V_w1'.trans (u_w2'.mono V_w1'.size)
  clear V_w1'
  clear u_w2'
  cases b0
  · skip
    have l_r := B_r.ldF (n := 11) rfl
    have e_r_0 := B_r.a11_0
    have f_r_0 := B_r.frozen 0
    have e_r_1 := B_r.a11_1
    have f_r_1 := B_r.frozen 1
    have e_r_2 := B_r.a11_2
    have f_r_2 := B_r.frozen 2
    have e_r_3 := B_r.a11_3
    have f_r_3 := B_r.frozen 3
    have e_r_4 := B_r.a11_4
    have f_r_4 := B_r.frozen 4
    have e_r_5 := B_r.a11_5
    have f_r_5 := B_r.frozen 5
    have e_r_6 := B_r.a11_6
    have f_r_6 := B_r.frozen 6
    have e_r_7 := B_r.a11_7
    have f_r_7 := B_r.frozen 7
    have e_r_8 := B_r.a11_8
    have f_r_8 := B_r.frozen 8
    have e_r_9 := B_r.a11_9
    have f_r_9 := B_r.frozen 9
    have e_r_10 := B_r.a11_10
    have f_r_10 := B_r.frozen 10
    have l_q := B_q.ldF (n := 11) rfl
    have e_q_0 := B_q.a11_0
    have f_q_0 := B_q.frozen 0
    have e_q_1 := B_q.a11_1
    have f_q_1 := B_q.frozen 1
    have e_q_2 := B_q.a11_2
    have f_q_2 := B_q.frozen 2
    have e_q_3 := B_q.a11_3
    have f_q_3 := B_q.frozen 3
    have e_q_4 := B_q.a11_4
    have f_q_4 := B_q.frozen 4
    have e_q_5 := B_q.a11_5
    have f_q_5 := B_q.frozen 5
    have e_q_6 := B_q.a11_6
    have f_q_6 := B_q.frozen 6
    have e_q_7 := B_q.a11_7
    have f_q_7 := B_q.frozen 7
    have e_q_8 := B_q.a11_8
    have f_q_8 := B_q.frozen 8
    have e_q_9 := B_q.a11_9
    have f_q_9 := B_q.frozen 9
    have e_q_10 := B_q.a11_10
    have f_q_10 := B_q.frozen 10
    go_wp2_with fail
    clear l_r e_r_0 f_r_0 e_r_1 f_r_1 e_r_2 f_r_2 e_r_3 f_r_3 e_r_4 f_r_4 e_r_5 f_r_5 e_r_6 f_r_6 e_r_7 f_r_7 e_r_8 f_r_8 e_r_9 f_r_9 e_r_10 f_r_10 l_q e_q_0 f_q_0 e_q_1 f_q_1 e_q_2 f_q_2 e_q_3 f_q_3 e_q_4 f_q_4 e_q_5 f_q_5 e_q_6 f_q_6 e_q_7 f_q_7 e_q_8 f_q_8 e_q_9 f_q_9 e_q_10 f_q_10
    refine Exists.elim (B_r.row11 (.int .i64 0) (.int .i64 0) (.int .i64 0) (.int .i64 0) (.int .i64 0) (.slice none 0 0) (.slice none 0 0) (.int .i64 0) (.slice none 0 0) (.int .i64 0) (.int .i64 0)) (fun w3_11' q => ?_)
    rw [q.1]; replace B_r := q.2.1; have G := q.2.2; clear q
    have V_w3'_0 := (V_w2').trans (G.below (V_w2').size (fun q hq => by have := (V_w2').size; simp at hq; omega))
    replace B_a := B_a.only G (by first | (simp; done) | (simp; omega))
    replace B_b := B_b.only G (by first | (simp; done) | (simp; omega))
    replace B_q := B_q.only G (by first | (simp; done) | (simp; omega))
    have sG0 := G.size
    clear G
    clear V_w2'
    refine Exists.elim (B_q.row11 (.int .i64 0) (.int .i64 0) (.int .i64 0) (.int .i64 0) (.int .i64 0) (.slice none 0 0) (.slice none 0 0) (.int .i64 0) (.slice none 0 0) (.int .i64 0) (.int .i64 0)) (fun w3' q => ?_)
    rw [q.1]; replace B_q := q.2.1; have G := q.2.2; clear q
    have V_w3' := (V_w3'_0).trans (G.below (V_w3'_0).size (fun q hq => by have := (V_w3'_0).size; simp at hq; omega))
    replace B_a := B_a.only G (by first | (simp; done) | (simp; omega))
    replace B_b := B_b.only G (by first | (simp; done) | (simp; omega))
    replace B_r := B_r.only G (by first | (simp; done) | (simp; omega))
    have sG1 := G.size
    clear G
    clear V_w3'_0
    have S_w3' : w2'.heap.size + 0 ≤ w3'.heap.size := by omega
    clear sG0 sG1
    have l_r := B_r.ldF (n := 11) rfl
    have e_r_0 := B_r.a11_0
    have e_r_1 := B_r.a11_1
    have e_r_2 := B_r.a11_2
    have e_r_3 := B_r.a11_3
    have e_r_4 := B_r.a11_4
    have e_r_5 := B_r.a11_5
    have e_r_6 := B_r.a11_6
    have e_r_7 := B_r.a11_7
    have e_r_8 := B_r.a11_8
    have e_r_9 := B_r.a11_9
    have e_r_10 := B_r.a11_10
    have l_q := B_q.ldF (n := 11) rfl
    have e_q_0 := B_q.a11_0
    have e_q_1 := B_q.a11_1
    have e_q_2 := B_q.a11_2
    have e_q_3 := B_q.a11_3
    have e_q_4 := B_q.a11_4
    have e_q_5 := B_q.a11_5
    have e_q_6 := B_q.a11_6
    have e_q_7 := B_q.a11_7
    have e_q_8 := B_q.a11_8
    have e_q_9 := B_q.a11_9
    have e_q_10 := B_q.a11_10
    exact bodyPost_ret (v := .tuple #[.agg #[.int .i64 0, .int .i64 0, .int .i64 0, .int .i64 0, .int .i64 0, .slice none 0 0, .slice none 0 0, .int .i64 0, .slice none 0 0, .int .i64 0, .int .i64 0], .agg #[.int .i64 0, .int .i64 0, .int .i64 0, .int .i64 0, .int .i64 0, .slice none 0 0, .slice none 0 0, .int .i64 0, .slice none 0 0, .int .i64 0, .int .i64 0], .slice none 0 0, .bool false]) (by simp [results, Tryd.results49, go_sem, e_r_0, e_r_1, e_r_2, e_r_3, e_r_4, e_r_5, e_r_6, e_r_7, e_r_8, e_r_9, e_r_10, e_q_0, e_q_1, e_q_2, e_q_3, e_q_4, e_q_5, e_q_6, e_q_7, e_q_8, e_q_9, e_q_10]) rfl (by first | exact ⟨zeroX, [], zeroX, [], none, 0, 0, rfl, PlO.nil _ _, PlO.nil _ _, [], MsO.nil _ _ _, Disj.nil_l _, Disj.nil_l _, Disj.nil_l _, V_w3'⟩ | exact ⟨zeroX, [], zeroX, [], none, 0, 0, [], rfl, PlO.nil _ _, PlO.nil _ _, MsO.nil _ _ _, Disj.nil_l _, Disj.nil_l _, Disj.nil_l _, V_w3'⟩)
  replace CR := Lib.hid (CR.out (by first | rfl | trivial))
  have l_a := B_a.ldF (n := 11) rfl
  have e_a_0 := B_a.a11_0
  have e_a_1 := B_a.a11_1
  have e_a_2 := B_a.a11_2
  have e_a_3 := B_a.a11_3
  have e_a_4 := B_a.a11_4
  have e_a_5 := B_a.a11_5
  have e_a_6 := B_a.a11_6
  have e_a_7 := B_a.a11_7
  have e_a_8 := B_a.a11_8
  have e_a_9 := B_a.a11_9
  have e_a_10 := B_a.a11_10
  have l_b := B_b.ldF (n := 11) rfl
  have e_b_0 := B_b.a11_0
  have e_b_1 := B_b.a11_1
  have e_b_2 := B_b.a11_2
  have e_b_3 := B_b.a11_3
  have e_b_4 := B_b.a11_4
  have e_b_5 := B_b.a11_5
  have e_b_6 := B_b.a11_6
  have e_b_7 := B_b.a11_7
  have e_b_8 := B_b.a11_8
  have e_b_9 := B_b.a11_9
  have e_b_10 := B_b.a11_10
  go_wp2_with fail
  clear l_a e_a_0 e_a_1 e_a_2 e_a_3 e_a_4 e_a_5 e_a_6 e_a_7 e_a_8 e_a_9 e_a_10 l_b e_b_0 e_b_1 e_b_2 e_b_3 e_b_4 e_b_5 e_b_6 e_b_7 e_b_8 e_b_9 e_b_10
  refine (CR.out _ (LA.out.below V_w2') (LB.out.below V_w2')).mono ?_
  rintro e w5 ⟨y1, F1, y2, F2, p, n, c, G, rfl, o1, o2, om, d1, d2, d3, UX⟩
  clear CR
  replace o1 := o1.lower (b' := w.heap.size + 4) (by omega)
  replace o2 := o2.lower (b' := w.heap.size + 4) (by omega)
  replace om := om.lower (b' := w.heap.size + 4) (by omega)
  replace B_a := B_a.below UX
  replace B_b := B_b.below UX
  replace B_r := B_r.below UX
  replace B_q := B_q.below UX
  have S_w5 := UX.size
  have V_w5 : Below w.heap.size w w5 := V_w2'.trans (UX.mono V_w2'.size)
  clear V_w2'
  clear UX
  have Q_o1 := Lib.hid o1.feet
  have Q_o2 := Lib.hid o2.feet
  have Q_om := Lib.hid om.feet
  go_upto_region 4 with fail
  refine Exists.elim (Blk.new_ w5 (b := w5.heap.size) rfl 31 #[.int .i64 s.P, .int .i64 s.party, .int .i64 s.input, .int .i64 s.mask, .int .i64 s.delta, .slice y1.sa y1.sn y1.sc, .slice y1.ka y1.kn y1.kc, .int .i64 s.step, .slice y1.ha y1.hn y1.hc, .int .i64 s.status, .int .i64 s.out]) (fun w4_a0' q => ?_)
  rw [q.1]; have B_c := q.2.1; have s_w4_a0' := q.2.2.1; have u_w4_a0' := q.2.2.2; clear q
  refine Exists.elim (Blk.new_ w4_a0' (b := w5.heap.size + 1) s_w4_a0' 31 #[.int .i64 t.P, .int .i64 t.party, .int .i64 t.input, .int .i64 t.mask, .int .i64 t.delta, .slice y2.sa y2.sn y2.sc, .slice y2.ka y2.kn y2.kc, .int .i64 t.step, .slice y2.ha y2.hn y2.hc, .int .i64 t.status, .int .i64 t.out]) (fun w4' q => ?_)
  rw [q.1]; have B_d := q.2.1; have s_w4' := q.2.2.1; have u_w4' := q.2.2.2; clear q
  replace B_c := (B_c.below u_w4')
  have U := (u_w4_a0'.trans (u_w4'.mono u_w4_a0'.size))
  replace B_a := B_a.below U
  replace B_b := B_b.below U
  replace B_r := B_r.below U
  replace B_q := B_q.below U
  replace o1 := o1.below U
  replace o2 := o2.below U
  replace om := om.below U
  have S_w4' : w5.heap.size + 2 ≤ w4'.heap.size := Nat.le_of_eq s_w4'.symm
  have V_w4' := V_w5.trans (U.mono (V_w5).size)
  clear u_w4_a0' u_w4' s_w4_a0' s_w4' U V_w5
  replace B_c := Blk.drew B_c
  replace B_d := Blk.drew B_d
  replace B_r := Blk.drew B_r
  replace B_q := Blk.drew B_q
  replace o1 := o1.drew
  replace o2 := o2.drew
  replace om := om.drew
  refine wp_region_noPanic ?_
  refine wp_region_held_drew (S := (fun W => Blk W ((w5.heap.size)) 31 #[.int .i64 s.P, .int .i64 s.party, .int .i64 s.input, .int .i64 s.mask, .int .i64 s.delta, .slice y1.sa y1.sn y1.sc, .slice y1.ka y1.kn y1.kc, .int .i64 s.step, .slice y1.ha y1.hn y1.hc, .int .i64 s.status, .int .i64 s.out] ∧ Blk W ((w5.heap.size + 1)) 31 #[.int .i64 t.P, .int .i64 t.party, .int .i64 t.input, .int .i64 t.mask, .int .i64 t.delta, .slice y2.sa y2.sn y2.sc, .slice y2.ka y2.kn y2.kc, .int .i64 t.step, .slice y2.ha y2.hn y2.hc, .int .i64 t.status, .int .i64 t.out])) (by kernel_rfl) ?hS7 (fun hHeld => ?go7)
  case hS7 => exact ⟨B_c, B_d⟩
  refine wpAnyH_take (i := 0) (oi := { dst := some 24, op := _, type := _, pos := _, after := _, guard := _ }) (v := ?v0_8) rfl (by kernel_rfl) (by kernel_rfl) (by kernel_rfl) (fun _ _ _ h => h) (Or.inl ⟨by rfl, ?hy0_8⟩) hHeld ?rest0_8
  case hy0_8 => (intro w hSw; obtain ⟨qS0, qS1⟩ := hSw; first | (have lS0 := qS0.ldF (n := 11) rfl; have lS1 := qS1.ldF (n := 11) rfl; go_simp; done) | (have lS0 := qS0.ldF (n := 11) rfl; have lS1 := qS1.ldF (n := 11) rfl; go_simp; with_reducible rfl) | (have cS0_0 := qS0.cell 0; have cS0_1 := qS0.cell 1; have cS0_2 := qS0.cell 2; have cS0_3 := qS0.cell 3; have cS0_4 := qS0.cell 4; have cS0_5 := qS0.cell 5; have cS0_6 := qS0.cell 6; have cS0_7 := qS0.cell 7; have cS0_8 := qS0.cell 8; have cS0_9 := qS0.cell 9; have cS0_10 := qS0.cell 10; have cS1_0 := qS1.cell 0; have cS1_1 := qS1.cell 1; have cS1_2 := qS1.cell 2; have cS1_3 := qS1.cell 3; have cS1_4 := qS1.cell 4; have cS1_5 := qS1.cell 5; have cS1_6 := qS1.cell 6; have cS1_7 := qS1.cell 7; have cS1_8 := qS1.cell 8; have cS1_9 := qS1.cell 9; have cS1_10 := qS1.cell 10; go_simp; done) | (have cS0_0 := qS0.cell 0; have cS0_1 := qS0.cell 1; have cS0_2 := qS0.cell 2; have cS0_3 := qS0.cell 3; have cS0_4 := qS0.cell 4; have cS0_5 := qS0.cell 5; have cS0_6 := qS0.cell 6; have cS0_7 := qS0.cell 7; have cS0_8 := qS0.cell 8; have cS0_9 := qS0.cell 9; have cS0_10 := qS0.cell 10; have cS1_0 := qS1.cell 0; have cS1_1 := qS1.cell 1; have cS1_2 := qS1.cell 2; have cS1_3 := qS1.cell 3; have cS1_4 := qS1.cell 4; have cS1_5 := qS1.cell 5; have cS1_6 := qS1.cell 6; have cS1_7 := qS1.cell 7; have cS1_8 := qS1.cell 8; have cS1_9 := qS1.cell 9; have cS1_10 := qS1.cell 10; go_simp; with_reducible rfl) | (with_reducible rfl))
  (try simp only [Act.put, List.setIfInBounds_toArray, List.set_cons_zero, List.set_cons_succ])
  refine wpAnyH_take (i := 1) (oi := { dst := some 25, op := _, type := _, pos := _, after := _, guard := _ }) (v := ?v1_9) rfl (by kernel_rfl) (by kernel_rfl) (by kernel_rfl) (fun _ _ _ h => h) (Or.inl ⟨by rfl, ?hy1_9⟩) hHeld ?rest1_9
  case hy1_9 => (intro w hSw; obtain ⟨qS0, qS1⟩ := hSw; first | (have lS0 := qS0.ldF (n := 11) rfl; have lS1 := qS1.ldF (n := 11) rfl; go_simp; done) | (have lS0 := qS0.ldF (n := 11) rfl; have lS1 := qS1.ldF (n := 11) rfl; go_simp; with_reducible rfl) | (have cS0_0 := qS0.cell 0; have cS0_1 := qS0.cell 1; have cS0_2 := qS0.cell 2; have cS0_3 := qS0.cell 3; have cS0_4 := qS0.cell 4; have cS0_5 := qS0.cell 5; have cS0_6 := qS0.cell 6; have cS0_7 := qS0.cell 7; have cS0_8 := qS0.cell 8; have cS0_9 := qS0.cell 9; have cS0_10 := qS0.cell 10; have cS1_0 := qS1.cell 0; have cS1_1 := qS1.cell 1; have cS1_2 := qS1.cell 2; have cS1_3 := qS1.cell 3; have cS1_4 := qS1.cell 4; have cS1_5 := qS1.cell 5; have cS1_6 := qS1.cell 6; have cS1_7 := qS1.cell 7; have cS1_8 := qS1.cell 8; have cS1_9 := qS1.cell 9; have cS1_10 := qS1.cell 10; go_simp; done) | (have cS0_0 := qS0.cell 0; have cS0_1 := qS0.cell 1; have cS0_2 := qS0.cell 2; have cS0_3 := qS0.cell 3; have cS0_4 := qS0.cell 4; have cS0_5 := qS0.cell 5; have cS0_6 := qS0.cell 6; have cS0_7 := qS0.cell 7; have cS0_8 := qS0.cell 8; have cS0_9 := qS0.cell 9; have cS0_10 := qS0.cell 10; have cS1_0 := qS1.cell 0; have cS1_1 := qS1.cell 1; have cS1_2 := qS1.cell 2; have cS1_3 := qS1.cell 3; have cS1_4 := qS1.cell 4; have cS1_5 := qS1.cell 5; have cS1_6 := qS1.cell 6; have cS1_7 := qS1.cell 7; have cS1_8 := qS1.cell 8; have cS1_9 := qS1.cell 9; have cS1_10 := qS1.cell 10; go_simp; with_reducible rfl) | (with_reducible rfl))
  (try simp only [Act.put, List.setIfInBounds_toArray, List.set_cons_zero, List.set_cons_succ])
  refine wpAnyH_take (i := 2) (oi := { dst := some 26, op := _, type := _, pos := _, after := _, guard := _ }) (v := ?v2_10) rfl (by kernel_rfl) (by kernel_rfl) (by kernel_rfl) (fun _ _ _ h => h) (Or.inl ⟨by rfl, ?hy2_10⟩) hHeld ?rest2_10
  case hy2_10 => (intro w _; first | (go_simp; done) | (go_simp; with_reducible rfl) | (with_reducible rfl))
  (try simp only [Act.put, List.setIfInBounds_toArray, List.set_cons_zero, List.set_cons_succ])
  have wdS := (Nat.le_refl w4'.heap.size : w4'.heap.size ≤ w4'.drew.heap.size)
  generalize hwd : w4'.drew = wd at *
  have G_all : Only [w.heap.size + 2, w.heap.size + 3] wd wd := Only.refl _ _
  refine wpAnyH_ready (rs := [3]) (by kernel_rfl) (by simp) ?_
  refine AllReadyH.cons (o := { dst := none, op := _, type := _, pos := _, after := _, guard := _ }) rfl (fun K hK => ?_) ?_
  refine step_st B_r (by simp [Region.wanted]) _ _ _ (by rfl) (by rfl) (by rfl) (by kernel_rfl) (by rfl) (by simp [Value.oneCell']) ?_
  intro wS3 B_r' G
  replace B_r := B_r'; clear B_r'
  replace B_c := B_c.only G (by first | (simp; done) | (simp; omega))
  replace B_d := B_d.only G (by first | (simp; done) | (simp; omega))
  replace B_q := B_q.only G (by first | (simp; done) | (simp; omega))
  replace o1 := o1.only G (fun q hq hq' => by have := Q_o1.out q hq; simp at hq'; omega)
  replace o2 := o2.only G (fun q hq hq' => by have := Q_o2.out q hq; simp at hq'; omega)
  replace om := om.only G (fun q hq hq' => by have := Q_om.out q hq; simp at hq'; omega)
  replace G_all := G_all.trans (G.more (F' := [w.heap.size + 2, w.heap.size + 3]) (by simp))
  clear G
  refine hK.out _ _ ?_ (fun hHeld => ?_)
  · exact ⟨B_c, B_d⟩
  clear hK K
  (try simp only [Act.put])
  refine wpAnyH_ready (rs := [4]) (by kernel_rfl) (by simp) ?_
  refine AllReadyH.cons (o := { dst := none, op := _, type := _, pos := _, after := _, guard := _ }) rfl (fun K hK => ?_) ?_
  refine step_st B_q (by simp [Region.wanted]) _ _ _ (by rfl) (by rfl) (by rfl) (by kernel_rfl) (by rfl) (by simp [Value.oneCell']) ?_
  intro wS4 B_q' G
  replace B_q := B_q'; clear B_q'
  replace B_c := B_c.only G (by first | (simp; done) | (simp; omega))
  replace B_d := B_d.only G (by first | (simp; done) | (simp; omega))
  replace B_r := B_r.only G (by first | (simp; done) | (simp; omega))
  replace o1 := o1.only G (fun q hq hq' => by have := Q_o1.out q hq; simp at hq'; omega)
  replace o2 := o2.only G (fun q hq hq' => by have := Q_o2.out q hq; simp at hq'; omega)
  replace om := om.only G (fun q hq hq' => by have := Q_om.out q hq; simp at hq'; omega)
  replace G_all := G_all.trans (G.more (F' := [w.heap.size + 2, w.heap.size + 3]) (by simp))
  clear G
  refine hK.out _ _ ?_ (fun hHeld => ?_)
  · exact ⟨B_c, B_d⟩
  clear hK K
  (try simp only [Act.put])
  refine wpAnyH_take (i := 5) (oi := { dst := some 6, op := _, type := _, pos := _, after := _, guard := _ }) (v := ?v5_11) rfl (by kernel_rfl) (by kernel_rfl) (by kernel_rfl) (fun _ _ _ h => h) (Or.inl ⟨by rfl, ?hy5_11⟩) hHeld ?rest5_11
  case hy5_11 => (intro w _; first | (go_simp; done) | (go_simp; with_reducible rfl) | (with_reducible rfl))
  (try simp only [Act.put, List.setIfInBounds_toArray, List.set_cons_zero, List.set_cons_succ])
  refine wpAnyH_take (i := 6) (oi := { dst := some 7, op := _, type := _, pos := _, after := _, guard := _ }) (v := ?v6_12) rfl (by kernel_rfl) (by kernel_rfl) (by kernel_rfl) (fun _ _ _ h => h) (Or.inl ⟨by rfl, ?hy6_12⟩) hHeld ?rest6_12
  case hy6_12 => (intro w _; first | (go_simp; done) | (go_simp; with_reducible rfl) | (with_reducible rfl))
  (try simp only [Act.put, List.setIfInBounds_toArray, List.set_cons_zero, List.set_cons_succ])
  refine wpAnyH_done (by kernel_rfl) ?_ _
  refine NoPanic.normal ?_
  rotate_left 1
  exact AllReadyH.nil
  exact AllReadyH.nil
  have GE := (Only.refl [w.heap.size + 2, w.heap.size + 3] w4').drew.trans (hwd ▸ G_all)
  clear hwd G_all hHeld wdS
  have VE : Below w.heap.size w wS4 := (V_w4').trans (GE.below (by omega) (by intro q hq; simp at hq; omega))
  first | (refine (‹∀ (a : Act) (w : World), Code.wp Tryd.prog Code.ret _ a w → _›) _ _ ?_; refine wp_ret ?_) | go_wp2
  have e_r_0 := B_r.cell 0
  have e_r_1 := B_r.cell 1
  have e_r_2 := B_r.cell 2
  have e_r_3 := B_r.cell 3
  have e_r_4 := B_r.cell 4
  have e_r_5 := B_r.cell 5
  have e_r_6 := B_r.cell 6
  have e_r_7 := B_r.cell 7
  have e_r_8 := B_r.cell 8
  have e_r_9 := B_r.cell 9
  have e_r_10 := B_r.cell 10
  have e_q_0 := B_q.cell 0
  have e_q_1 := B_q.cell 1
  have e_q_2 := B_q.cell 2
  have e_q_3 := B_q.cell 3
  have e_q_4 := B_q.cell 4
  have e_q_5 := B_q.cell 5
  have e_q_6 := B_q.cell 6
  have e_q_7 := B_q.cell 7
  have e_q_8 := B_q.cell 8
  have e_q_9 := B_q.cell 9
  have e_q_10 := B_q.cell 10
  exact bodyPost_ret (v := .tuple #[.agg #[.int .i64 s.P, .int .i64 s.party, .int .i64 s.input, .int .i64 s.mask, .int .i64 s.delta, .slice y1.sa y1.sn y1.sc, .slice y1.ka y1.kn y1.kc, .int .i64 s.step, .slice y1.ha y1.hn y1.hc, .int .i64 s.status, .int .i64 s.out], .agg #[.int .i64 t.P, .int .i64 t.party, .int .i64 t.input, .int .i64 t.mask, .int .i64 t.delta, .slice y2.sa y2.sn y2.sc, .slice y2.ka y2.kn y2.kc, .int .i64 t.step, .slice y2.ha y2.hn y2.hc, .int .i64 t.status, .int .i64 t.out], .slice p n c, .bool true]) (by simp [results, Tryd.results49, go_sem, e_r_0, e_r_1, e_r_2, e_r_3, e_r_4, e_r_5, e_r_6, e_r_7, e_r_8, e_r_9, e_r_10, e_q_0, e_q_1, e_q_2, e_q_3, e_q_4, e_q_5, e_q_6, e_q_7, e_q_8, e_q_9, e_q_10]) rfl (by first | exact ⟨y1, F1, y2, F2, p, n, c, G, rfl, o1.lower (by omega), o2.lower (by omega), om.lower (by omega), d1, d2, d3, VE⟩ | exact ⟨y1, F1, y2, F2, p, n, c, rfl, o1.lower (by omega), o2.lower (by omega), G, om.lower (by omega), d1, d2, d3, VE⟩)
end Go.Proofs.YtlmdckcohoddnaaDoor
namespace Go.Proofs.YtlmdckcohoddnaaDoor
open Go.ChangeShapes Go.WideShapes Go.Deep Go.RowKit
section
variable {H : Type} {enc : TypeId × Value → H} {P : Program} {w : World} {base : Nat} {spare : Nat → Bool} {held : Bool}
theorem open_struct {r : Reach} {b0 : Nat} {t : TypeId} {fs : Array Field} {v : Value} {d : DataW H} {p : List MemPlace} (hs : P.underlying t = some (.struct fs)) (hone : oneCellFields P fs = true) (hC : P.cellsOf t = fs.size)
    (hv : Value.okWide P w r b0 t v) (h : DataW.Trod enc P w base spare held t v d p) :
    ∃ (vs : List Value) (n : Nat), v = .agg vs.toArray ∧ vs.length = fs.size ∧ ∀ (j : Nat) (f : Field), fs[j]? = some f → ∃ u y, vs[j]? = some u ∧ DataW.trod enc P w base spare held n f.type [u] = some y := by
  obtain ⟨cs, rfl, hsz⟩ := okWide_struct hs hv
  obtain ⟨fuel, hf⟩ := h
  obtain ⟨ys, n, _, _, _, hyl, hg⟩ := DataW.trod_struct hs hf
  refine ⟨cs.toList, n, rfl, by simp [hsz, hC], fun j f hj => ?_⟩
  obtain ⟨ho, hk⟩ := hone_of hone j f hj
  have hjl : j < fs.size := (Array.getElem?_eq_some_iff.1 hj).1
  have hcl : j < cs.toList.length := by simp [hsz, hC, hjl]
  have h1 := hg j f hj
  rw [ho, hk] at h1
  have hone' : ((Value.agg cs).cells.toList.drop j).take 1 = [cs.toList[j]] := by
    show (cs.toList.drop j).take 1 = _
    rw [List.drop_eq_getElem_cons hcl]
    rfl
  rw [hone'] at h1
  have hys : ys[j]? = some (ys[j]'(by omega)) := List.getElem?_eq_getElem (by omega)
  exact ⟨_, _, List.getElem?_eq_getElem hcl, h1.trans hys⟩
theorem field_int {t : TypeId} {k : IntKind} {n : Nat} {u : Value} {y : DataW H × List MemPlace} (ht : P.underlying t = some (.int k)) (h : DataW.trod enc P w base spare held n t [u] = some y) : ∃ x, u = .int k x ∧ (Lit.int k x).wf = true := by
  obtain ⟨x, h1, _, h3⟩ := DataW.trod_int ht h
  simp at h1
  exact ⟨x, h1, h3⟩
theorem field_ints {t e : TypeId} {n : Nat} {u : Value} {y : DataW H × List MemPlace} (ht : P.underlying t = some (.slice e)) (he : P.underlying e = some (.int .i64)) (hc : P.cellsOf e = 1) (h : DataW.trod enc P w base (fun _ => true) held n t [u] = some y) :
    ∃ a m c l, u = .slice a m c ∧ Ints w a m c l ∧ Wf l := by
  rcases open_ints ht he hc h with ⟨hcs, _⟩ | ⟨x, l, c, zs, hcs, _, hl, hm, hz, _, hcell, hwz⟩
  · simp at hcs
    exact ⟨none, 0, 0, [], hcs, Ints.nil0 w, fun x hx => by cases hx⟩
  · simp at hcs
    exact ⟨some x, l, c, zs.take l, hcs, Ints.of_row hl hm (by simpa using hz) hcell, fun x hx => wf_range (hwz x (List.mem_of_mem_take hx))⟩
/-- The number in a cell. -/
def cellI (w : World) (a : Addr) (q : Nat) : Int := match w.cell? (a.add q) with
  | some (.int .i64 x) => x
  | _ => 0
theorem field_flat {t e : TypeId} {fs : Array Field} {n : Nat} {u : Value} {y : DataW H × List MemPlace} (ht : P.underlying t = some (.slice e)) (he : P.underlying e = some (.struct fs)) (hone : oneCellFields P fs = true) (hC : P.cellsOf e = fs.size)
    (hpos : 0 < fs.size) (hint : ∀ (j : Nat) (f : Field), fs[j]? = some f → P.underlying f.type = some (.int .i64)) (h : DataW.trod enc P w base (fun _ => true) held n t [u] = some y) :
    ∃ a m c l, u = .slice a m c ∧ Flat fs.size w a m c l ∧ Wf l := by
  rcases open_slice ht h with ⟨hcs, _⟩ | ⟨x, l, c, m, n1, _, _, hcs, _, hl, hm, hmm, _, hi⟩
  · simp at hcs
    exact ⟨none, 0, 0, [], hcs, ⟨by simp, Nat.le_refl _, Nat.zero_le _, fun _ => rfl, 0, 0, fun h => absurd h (by omega), fun i u hu => by simp at hu⟩, fun x hx => by cases hx⟩
  · simp at hcs hmm
    subst hmm
    have each : ∀ q, q < l * fs.size → w.cell? (x.add q) = some (.int .i64 (cellI w x q)) ∧ (Lit.int .i64 (cellI w x q)).wf = true := fun q hq => by
      have hq1 : q / fs.size < m := Nat.lt_of_lt_of_le (Nat.div_lt_of_lt_mul (by rw [Nat.mul_comm]; exact hq)) hl
      have hq2 : q % fs.size < fs.size := Nat.mod_lt _ hpos
      have hfq := Array.getElem?_eq_getElem hq2
      obtain ⟨es, hes, hte⟩ := hi _ hq1
      obtain ⟨_, hel, hea⟩ := World.cells?_some hes
      obtain ⟨gs, _, _, _, _, hgl, hg⟩ := DataW.trod_struct he hte
      obtain ⟨ho, hk⟩ := hone_of hone _ _ hfq
      have hin : q % fs.size < es.length := by rw [hel, hC]; exact hq2
      have hy := hg _ _ hfq
      rw [ho, hk, List.drop_eq_getElem_cons hin, List.take_succ_cons, List.take_zero, List.getElem?_eq_getElem (show q % fs.size < gs.length by omega)] at hy
      have hc := hea _ (show q % fs.size < P.cellsOf e by rw [hC]; exact hq2)
      rw [Go.Deep.add_add, hC, Nat.div_add_mod', List.getElem?_eq_getElem hin] at hc
      obtain ⟨z, hz0, hz⟩ := field_int (hint _ _ hfq) hy
      rw [hz0] at hc
      have : cellI w x q = z := by unfold cellI; rw [hc]
      rw [this]
      exact ⟨hc, hz⟩
    have hcell : ∀ i, i < ((List.range (l * fs.size)).map (cellI w x)).length → w.cell? (x.add i) = some (.int .i64 (((List.range (l * fs.size)).map (cellI w x)).getD i 0)) := fun i hi => by
      simp at hi
      rw [(each i hi).1]
      simp [List.getD, hi]
    refine ⟨some x, l, m, (List.range (l * fs.size)).map (cellI w x), hcs, ?_, fun z hz => ?_⟩
    · refine ⟨by simp, hl, hm, fun h => (by cases h), ?_⟩
      by_cases h0 : 0 < l * fs.size
      · obtain ⟨b, off, rfl, hc⟩ := ints_at hcell (by simpa using h0)
        refine ⟨b, off, fun _ => rfl, fun i u hu => ?_⟩
        rw [List.getElem?_map] at hu
        obtain ⟨z, hz, rfl⟩ := Option.map_eq_some_iff.1 hu
        have hil := (List.getElem?_eq_some_iff.1 hz).1
        rw [hc i hil]
        simp [List.getD, hz]
      · have hl0 : l = 0 := by
          rcases Nat.eq_zero_or_pos l with h | h
          · exact h
          · exact absurd (Nat.mul_pos h hpos) h0
        subst hl0
        exact ⟨0, 0, fun h => absurd h (by omega), fun i u hu => by simp at hu⟩
    · obtain ⟨q, hq, rfl⟩ := List.mem_map.1 hz
      exact wf_range (each q (List.mem_range.1 hq)).2
end
theorem list11 {l : List Value} (h : l.length = 11) : ∃ a b c d e f g h i j k, l = [a, b, c, d, e, f, g, h, i, j, k] := by
  match l, h with
  | [a, b, c, d, e, f, g, h, i, j, k], _ => exact ⟨a, b, c, d, e, f, g, h, i, j, k, rfl⟩
end Go.Proofs.YtlmdckcohoddnaaDoor
namespace Go.Proofs.YtlmdckcohoddnaaDoor
open Go.ChangeShapes Go.WideShapes Go.Deep Go.RowKit
section
variable {H : Type} {enc : TypeId × Value → H} {P : Program} {w : World} {base : Nat} {held : Bool}
theorem chunk {xs : List Value} {es : List Value} {i sz : Nat} (he : es.length = sz) (h : ∀ j, j < sz → xs[i + j]? = es[j]?) : (xs.drop i).take sz = es := by
  apply List.ext_getElem?
  intro j
  by_cases hj : j < sz
  · rw [List.getElem?_take_of_lt hj, List.getElem?_drop, h j hj]
  · rw [List.getElem?_eq_none (by simp; omega), List.getElem?_eq_none (by omega)]
theorem field_row {t e sz : Nat} {n : Nat} {u : Value} {y : DataW H × List MemPlace} (ht : P.underlying t = some (.slice e)) (hC : P.cellsOf e = sz) (hpos : 0 < sz) (h : DataW.trod enc P w base (fun _ => true) held n t [u] = some y) :
    ∃ a m c xs k, u = .slice a m c ∧ RowC w a m c sz xs ∧ ∀ q, q < m → ∃ z, DataW.trod enc P w base (fun _ => true) held k e ((xs.drop (q * sz)).take sz) = some z := by
  rcases open_slice ht h with ⟨hcs, _⟩ | ⟨x, l, c, m, n1, _, _, hcs, _, hl, hm, hmm, _, hi⟩
  · simp at hcs
    exact ⟨none, 0, 0, [], 0, hcs, ⟨by simp, Nat.le_refl _, Nat.zero_le _, fun _ => rfl, 0, 0, fun h => absurd h (by omega), fun i u hu => by simp at hu⟩, fun q hq => absurd hq (by omega)⟩
  · simp at hcs hmm
    subst hmm
    have each : ∀ q j, q < l → j < sz → ∃ es, DataW.trod enc P w base (fun _ => true) held n1 e es = some (‹Nat → DataW H› q, ‹Nat → List MemPlace› q) ∧ es.length = sz ∧ w.cell? (x.add (q * sz + j)) = es[j]? := fun q j hq hj => by
      obtain ⟨es, hes, hte⟩ := hi q (by omega)
      obtain ⟨_, hel, hea⟩ := World.cells?_some hes
      rw [hC] at hel hea
      have hc := hea j hj
      rw [Go.Deep.add_add] at hc
      exact ⟨es, hte, hel, hc⟩
    have some_ : ∀ i, i < l * sz → ∃ v, w.cell? (x.add i) = some v := fun i h => by
      have hq : i / sz < l := Nat.div_lt_of_lt_mul (by rw [Nat.mul_comm]; exact h)
      obtain ⟨es, _, hl2, hc⟩ := each (i / sz) (i % sz) hq (Nat.mod_lt _ hpos)
      rw [Nat.div_add_mod'] at hc
      have : i % sz < es.length := by rw [hl2]; exact Nat.mod_lt _ hpos
      exact ⟨_, by rw [hc, List.getElem?_eq_getElem this]⟩
    let xs : List Value := (List.range (l * sz)).map fun i => (w.cell? (x.add i)).getD (.bool false)
    have hxs : ∀ i, i < l * sz → xs[i]? = w.cell? (x.add i) := fun i hi => by
      obtain ⟨v, hv⟩ := some_ i hi
      show ((List.range (l * sz)).map _)[i]? = _
      rw [List.getElem?_map, List.getElem?_range hi, Option.map_some, hv]
      rfl
    have hxl : xs.length = l * sz := by show ((List.range (l * sz)).map _).length = _; simp
    refine ⟨some x, l, m, xs, n1, hcs, ⟨hxl, hl, hm, (fun h => by cases h), ?_⟩, fun q hq => ?_⟩
    · by_cases h0 : 0 < l * sz
      · obtain ⟨v, hv⟩ := some_ 0 h0
        obtain ⟨b, off, spot⟩ := x
        have hspot : spot = none := by simpa [Addr.add] using World.cell?_spot hv
        subst hspot
        refine ⟨b, off, fun _ => rfl, fun i u hu => ?_⟩
        have hil : i < l * sz := by rw [← hxl]; exact (List.getElem?_eq_some_iff.1 hu).1
        rw [← Go.WideShapes.add_plain, ← hxs i hil]
        exact hu
      · have hl0 : l = 0 := by
          rcases Nat.eq_zero_or_pos l with h | h
          · exact h
          · exact absurd (Nat.mul_pos h hpos) h0
        subst hl0
        exact ⟨0, 0, fun h => absurd h (by omega), fun i u hu => by have := (List.getElem?_eq_some_iff.1 hu).1; rw [hxl] at this; omega⟩
    · obtain ⟨es, hes, hte⟩ := hi q (by omega)
      obtain ⟨_, hel, hea⟩ := World.cells?_some hes
      rw [hC] at hel hea
      have : (xs.drop (q * sz)).take sz = es := chunk hel (fun j hj => by
        have hlt : q * sz + j < l * sz := by
          have : (q + 1) * sz ≤ l * sz := Nat.mul_le_mul_right _ hq
          rw [Nat.add_mul] at this
          omega
        rw [hxs _ hlt, ← hea j hj, Go.Deep.add_add])
      rw [this]
      exact ⟨_, hte⟩
theorem field_intss {t e e2 : TypeId} {n : Nat} {u : Value} {y : DataW H × List MemPlace} (ht : P.underlying t = some (.slice e)) (hC : P.cellsOf e = 1) (he : P.underlying e = some (.slice e2)) (he2 : P.underlying e2 = some (.int .i64)) (hc2 : P.cellsOf e2 = 1)
    (h : DataW.trod enc P w base (fun _ => true) held n t [u] = some y) : ∃ a m c rs, u = .slice a m c ∧ IntSS w a m c rs ∧ ∀ r ∈ rs, Wf r.2.2 := by
  obtain ⟨a, m, c, xs, k, rfl, hr, hi⟩ := field_row ht hC (by decide) h
  have hxl := hr.1
  have each : ∀ q, q < m → ∃ r : RowD, xs[q]? = some (rowV r) ∧ Ints w r.1 r.2.2.length r.2.1 r.2.2 ∧ Wf r.2.2 := fun q hq => by
    obtain ⟨z, hz⟩ := hi q hq
    have hlt : q < xs.length := by omega
    rw [Nat.mul_one, List.drop_eq_getElem_cons hlt, List.take_succ_cons, List.take_zero] at hz
    obtain ⟨b, m2, d, l, hu, hI, hw⟩ := field_ints he he2 hc2 hz
    obtain rfl := hI.len
    exact ⟨(b, d, l), by rw [List.getElem?_eq_getElem hlt, hu]; rfl, hI, hw⟩
  obtain ⟨R, hR⟩ := choose_lt (α := RowD) (p := fun q r => xs[q]? = some (rowV r) ∧ Ints w r.1 r.2.2.length r.2.1 r.2.2 ∧ Wf r.2.2) each
  refine ⟨a, m, c, (List.range m).map R, rfl, ⟨?_, fun r hr' => ?_⟩, fun r hr' => ?_⟩
  · have : ((List.range m).map R).map rowV = xs := by
      apply List.ext_getElem?
      intro q
      by_cases hq : q < m
      · rw [(hR q hq).1]; simp [hq]
      · rw [List.getElem?_eq_none (by simp; omega), List.getElem?_eq_none (by omega)]
    rw [this]
    exact hr
  · obtain ⟨q, hq, rfl⟩ := List.mem_map.1 hr'
    exact (hR q (List.mem_range.1 hq)).2.1
  · obtain ⟨q, hq, rfl⟩ := List.mem_map.1 hr'
    exact (hR q (List.mem_range.1 hq)).2.2
end
end Go.Proofs.YtlmdckcohoddnaaDoor
