/- Lemmas and walks that the claim's proof rests on, part 14. -/
import Derived.Test.YtlmdckcohoddnaaDoorK12
import Derived.Test.YtlmdckcohoddnaaDoorK13
namespace Go.Proofs.YtlmdckcohoddnaaDoor
open Go.RowKit
theorem Only.cell {F : List Nat} {w w' : World} (ho : Only F w w') {p : Addr} (hlt : p.block < w.heap.size) (hn : p.block ∉ F) : w'.cell? p = w.cell? p := by
  unfold World.cell?
  rw [ho.block _ hlt hn]
/-- The row lies in no block of F. -/
def Off (F : List Nat) (a : Option Addr) (n : Nat) : Prop := 0 < n → ∀ x, a = some x → x.block ∉ F
theorem RowC.onlyOff {F : List Nat} {w w' : World} {a n c sz xs} (h : RowC w a n c sz xs) (ho : Only F w w') (hf : Off F a n) : RowC w' a n c sz xs := by
  obtain ⟨h1, h2, h3, h4, g, o, h5, h6⟩ := h
  refine ⟨h1, h2, h3, h4, g, o, h5, fun i u hu => ?_⟩
  have hn : 0 < n := by
    rcases Nat.eq_zero_or_pos n with rfl | h
    · have : xs = [] := List.eq_nil_of_length_eq_zero (by rw [h1, Nat.zero_mul])
      subst this; simp at hu
    · exact h
  have hc := h6 i u hu
  have hg : (⟨g, o, none⟩ : Addr).block ∉ F := hf hn _ (h5 hn)
  rw [ho.cell (World.block_lt_of_cell? w _ hc) hg]
  exact hc
theorem RowC.off {F : List Nat} {w : World} {a n c sz xs} (h : RowC w a n c sz xs) (hs : 0 < sz) (hF : ∀ q ∈ F, w.heap.size ≤ q) : Off F a n := fun hn x hx hq => by
  obtain ⟨h1, h2, h3, h4, g, o, h5, h6⟩ := h
  have hl : 0 < xs.length := by rw [h1]; exact Nat.mul_pos hn hs
  have hc := h6 0 xs[0] (by simp [hl])
  have := World.block_lt_of_cell? w _ hc
  rw [h5 hn] at hx
  cases hx
  have := hF _ hq
  simp only at *
  omega
theorem Ints.onlyOff {F : List Nat} {w w' : World} {a n c l} (h : Ints w a n c l) (ho : Only F w w') (hf : Off F a n) : Ints w' a n c l := Ints.of_rowC (h.rowC.onlyOff ho hf)
/-- A player's reading, off the blocks F. -/
def PlB (F : List Nat) (w : World) (x : PlX) (s k : List Int) (h : List (List Int)) : Prop :=
  Flat 2 w x.sa x.sn x.sc s ∧ Ints w x.ka x.kn x.kc k ∧ ∃ rs, IntSS w x.ha x.hn x.hc rs ∧ datas' rs = h ∧ Off F x.sa x.sn ∧ Off F x.ka x.kn ∧ Off F x.ha x.hn ∧ ∀ r ∈ rs, Off F r.1 r.2.2.length
theorem PlB.rd {F w x s k h} (p : PlB F w x s k h) : PlR w x s k h := by
  obtain ⟨p1, p2, rs, p3, p4, _⟩ := p
  exact ⟨p1, p2, rs, p3, p4⟩
theorem PlB.only {F w w' x s k h} (p : PlB F w x s k h) (ho : Only F w w') : PlB F w' x s k h := by
  obtain ⟨p1, p2, rs, p3, p4, q1, q2, q3, q4⟩ := p
  exact ⟨RowC.onlyOff p1 ho q1, p2.onlyOff ho q2, rs, ⟨p3.row.onlyOff ho q3, fun r hr => (p3.inn r hr).onlyOff ho (q4 r hr)⟩, p4, q1, q2, q3, q4⟩
theorem PlB.below {F w w' x s k h} (p : PlB F w x s k h) (hb : Below w.heap.size w w') : PlB F w' x s k h := p.only (Only.of_below hb)
theorem PlB.of {F w x s k h} (p : PlR w x s k h) (hF : ∀ q ∈ F, w.heap.size ≤ q) : PlB F w x s k h := by
  obtain ⟨p1, p2, rs, p3, p4⟩ := p
  exact ⟨p1, p2, rs, p3, p4, RowC.off p1 (by omega) hF, RowC.off p2.rowC (by omega) hF, RowC.off p3.row (by omega) hF, fun r hr => RowC.off (p3.inn r hr).rowC (by omega) hF⟩
set_option maxHeartbeats 16000000 in
set_option maxRecDepth 100000 in
theorem ptTake_fr (a : Pl) (x : PlX) (fr st : Int) (b : Option Addr) (n c : Nat) (body : List Int) (w : World) (F : List Nat) (_hF : ∀ q ∈ F, q < w.heap.size) (hPB : PlB F w x a.shares a.keys a.heard) (hM : Ints w b n c body) (hN : PlN a) (hs : a.step ≤ 2) (hb1 : fr ≠ 1 - a.party) :
    Calls Tryd.prog 91 #[.agg #[.int .i64 a.P, .int .i64 a.party, .int .i64 a.input, .int .i64 a.mask, .int .i64 a.delta, .slice x.sa x.sn x.sc, .slice x.ka x.kn x.kc, .int .i64 a.step, .slice x.ha x.hn x.hc, .int .i64 a.status, .int .i64 a.out], .agg #[.int .i64 fr, .int .i64 st, .slice b n c]] w fun e w' => ∃ y, e = .returned (.agg #[.int .i64 a.P, .int .i64 a.party, .int .i64 a.input, .int .i64 a.mask, .int .i64 a.delta, .slice y.sa y.sn y.sc, .slice y.ka y.kn y.kc, .int .i64 a.step, .slice y.ha y.hn y.hc, .int .i64 2, .int .i64 a.out]) ∧ PlB F w' y a.shares a.keys (a.heard) ∧ Below w.heap.size w w' := by
  have h := hPB.rd
  have LB := Lib.hid hPB
  clear hPB
  have hp1 := hN.p1
  have hp2 := hN.p2
  have hpa := hN.pa
  have hst := hN.stp
  have hnl := hM.le
  have t1 : IntKind.i64.wrap (1 - a.party) = 1 - a.party := IntWalk.i64_in _ (by omega)
  have t2 : IntKind.i64.wrap (a.P - 1) = a.P - 1 := IntWalk.i64_in _ (by omega)
  have CL : ∀ (W : World), Calls Tryd.prog 88 #[.int .i64 a.step] W fun e w' => e = .returned (.int .i64 (blen a.step.toNat)) ∧ Below W.heap.size W w' := fun W => by
    have := ptLength_any a.step.toNat W (by omega)
    rwa [Int.toNat_of_nonneg hst.1] at this
  have C4 := fun (W : World) (h2 : Ints W b n c body) => ((l1All_any b n c body 0 (a.P - 1) W h2).mono (fun _ _ ⟨he, hq⟩ => ⟨he, below_of_quiet hq⟩) : Calls Tryd.prog 100 #[.slice b n c, .int .i64 0, .int .i64 (a.P - 1)] W fun e w' => e = .returned (.bool (allB body 0 (a.P - 1))) ∧ Below W.heap.size W w')
  have C5 := fun (hl : n = blen a.step.toNat) (hr : ∀ v ∈ body, 0 ≤ v ∧ v ≤ a.P - 1) (W : World) (h2 : PlR W x a.shares a.keys a.heard) (h3 : Ints W b n c body) => ptHolds_any a x b n c body W h2 h3 hN hs hl hr
  have d1 : ((fr != 1 - a.party) : Bool) = true := by simp; omega
  have LH := Lib.hid h
  have LM := Lib.hid hM
  replace CL := Lib.hid CL
  replace C4 := Lib.hid C4
  replace C5 := Lib.hid C5
  clear h hM hN hs
  clear hb1
  go_enter Tryd.func91, Tryd.ntmps91
  go_upto_region 2 with fail
  refine Exists.elim (Blk.new_ w (b := w.heap.size) rfl 31 #[.int .i64 a.P, .int .i64 a.party, .int .i64 a.input, .int .i64 a.mask, .int .i64 a.delta, .slice x.sa x.sn x.sc, .slice x.ka x.kn x.kc, .int .i64 a.step, .slice x.ha x.hn x.hc, .int .i64 a.status, .int .i64 a.out]) (fun w1_a0' q => ?_)
  rw [q.1]; have B_a := q.2.1; have s_w1_a0' := q.2.2.1; have u_w1_a0' := q.2.2.2; clear q
  refine Exists.elim (Blk.new_ w1_a0' (b := w.heap.size + 1) s_w1_a0' 44 #[.int .i64 fr, .int .i64 st, .slice b n c]) (fun w1_a1' q => ?_)
  rw [q.1]; have B_m := q.2.1; have s_w1_a1' := q.2.2.1; have u_w1_a1' := q.2.2.2; clear q
  refine Exists.elim (Blk.new_ w1_a1' (b := w.heap.size + 2) s_w1_a1' 31 #[.int .i64 0, .int .i64 0, .int .i64 0, .int .i64 0, .int .i64 0, .slice none 0 0, .slice none 0 0, .int .i64 0, .slice none 0 0, .int .i64 0, .int .i64 0]) (fun w1_a2' q => ?_)
  rw [q.1]; have B_r := q.2.1; have s_w1_a2' := q.2.2.1; have u_w1_a2' := q.2.2.2; clear q
  refine Exists.elim (Blk.new_ w1_a2' (b := w.heap.size + 3) s_w1_a2' 31 #[.int .i64 a.P, .int .i64 a.party, .int .i64 a.input, .int .i64 a.mask, .int .i64 a.delta, .slice x.sa x.sn x.sc, .slice x.ka x.kn x.kc, .int .i64 a.step, .slice x.ha x.hn x.hc, .int .i64 a.status, .int .i64 a.out]) (fun w1' q => ?_)
  rw [q.1]; have B_b := q.2.1; have s_w1' := q.2.2.1; have u_w1' := q.2.2.2; clear q
  replace B_a := (((B_a.below u_w1_a1').below u_w1_a2').below u_w1')
  replace B_m := ((B_m.below u_w1_a2').below u_w1')
  replace B_r := (B_r.below u_w1')
  have U := (u_w1_a0'.trans ((u_w1_a1'.trans ((u_w1_a2'.trans (u_w1'.mono u_w1_a2'.size)).mono u_w1_a1'.size)).mono u_w1_a0'.size))
  have S_w1' : w.heap.size + 4 ≤ w1'.heap.size := Nat.le_of_eq s_w1'.symm
  have V_w1' := (Below.refl w.heap.size w).trans (U.mono ((Below.refl w.heap.size w)).size)
  clear u_w1_a0' u_w1_a1' u_w1_a2' u_w1' s_w1_a0' s_w1_a1' s_w1_a2' s_w1' U
  try rw [show w.heap.size + 1 + 1 + 1 = w.heap.size + 3 from rfl]
  try rw [show w.heap.size + 1 + 1 = w.heap.size + 2 from rfl]
  have l_a := B_a.ldF (n := 11) rfl
  have e_a_0 := B_a.a11_0
  have e_a_1 := B_a.a11_1
  have e_a_2 := B_a.a11_2
  have e_a_3 := B_a.a11_3
  have e_a_4 := B_a.a11_4
  have e_a_5 := B_a.a11_5
  have e_a_6 := B_a.a11_6
  have e_a_7 := B_a.a11_7
  have e_a_8 := B_a.a11_8
  have e_a_9 := B_a.a11_9
  have e_a_10 := B_a.a11_10
  have l_m := B_m.ldF (n := 3) rfl
  have e_m_0 := B_m.a3_0
  have e_m_1 := B_m.a3_1
  have e_m_2 := B_m.a3_2
  go_wp2
  go_quiet (fail)
  clear l_a e_a_0 e_a_1 e_a_2 e_a_3 e_a_4 e_a_5 e_a_6 e_a_7 e_a_8 e_a_9 e_a_10 l_m e_m_0 e_m_1 e_m_2
  have u9 : Below w1'.heap.size w1' (w1'.drewN nq) := below_of_drewN _
  generalize hwq : w1'.drewN nq = wq at *
  clear hwq
  replace B_a := B_a.below u9
  replace B_m := B_m.below u9
  replace B_r := B_r.below u9
  replace B_b := B_b.below u9
  have S_wq := u9.size
  have V_wq : Below w.heap.size w wq := V_w1'.trans (u9.mono V_w1'.size)
  clear V_w1'
  clear u9
  have l_b := B_b.ldF (n := 11) rfl
  have e_b_0 := B_b.a11_0
  have f_b_0 := B_b.frozen 0
  have e_b_1 := B_b.a11_1
  have f_b_1 := B_b.frozen 1
  have e_b_2 := B_b.a11_2
  have f_b_2 := B_b.frozen 2
  have e_b_3 := B_b.a11_3
  have f_b_3 := B_b.frozen 3
  have e_b_4 := B_b.a11_4
  have f_b_4 := B_b.frozen 4
  have e_b_5 := B_b.a11_5
  have f_b_5 := B_b.frozen 5
  have e_b_6 := B_b.a11_6
  have f_b_6 := B_b.frozen 6
  have e_b_7 := B_b.a11_7
  have f_b_7 := B_b.frozen 7
  have e_b_8 := B_b.a11_8
  have f_b_8 := B_b.frozen 8
  have e_b_9 := B_b.a11_9
  have f_b_9 := B_b.frozen 9
  have e_b_10 := B_b.a11_10
  have f_b_10 := B_b.frozen 10
  have l_r := B_r.ldF (n := 11) rfl
  have e_r_0 := B_r.a11_0
  have f_r_0 := B_r.frozen 0
  have e_r_1 := B_r.a11_1
  have f_r_1 := B_r.frozen 1
  have e_r_2 := B_r.a11_2
  have f_r_2 := B_r.frozen 2
  have e_r_3 := B_r.a11_3
  have f_r_3 := B_r.frozen 3
  have e_r_4 := B_r.a11_4
  have f_r_4 := B_r.frozen 4
  have e_r_5 := B_r.a11_5
  have f_r_5 := B_r.frozen 5
  have e_r_6 := B_r.a11_6
  have f_r_6 := B_r.frozen 6
  have e_r_7 := B_r.a11_7
  have f_r_7 := B_r.frozen 7
  have e_r_8 := B_r.a11_8
  have f_r_8 := B_r.frozen 8
  have e_r_9 := B_r.a11_9
  have f_r_9 := B_r.frozen 9
  have e_r_10 := B_r.a11_10
  have f_r_10 := B_r.frozen 10
  go_wp2
  clear l_b e_b_0 f_b_0 e_b_1 f_b_1 e_b_2 f_b_2 e_b_3 f_b_3 e_b_4 f_b_4 e_b_5 f_b_5 e_b_6 f_b_6 e_b_7 f_b_7 e_b_8 f_b_8 e_b_9 f_b_9 e_b_10 f_b_10 l_r e_r_0 f_r_0 e_r_1 f_r_1 e_r_2 f_r_2 e_r_3 f_r_3 e_r_4 f_r_4 e_r_5 f_r_5 e_r_6 f_r_6 e_r_7 f_r_7 e_r_8 f_r_8 e_r_9 f_r_9 e_r_10 f_r_10
  have g_1 : Only [w.heap.size + 3] wq (wq.setCell ⟨w.heap.size + 3, 9, none⟩ (.int .i64 2)) := (Only.refl _ _).setCell _ _ (by simp)
  replace B_b := B_b.set_ 9 (.int .i64 2)
  generalize wq.setCell ⟨w.heap.size + 3, 9, none⟩ (.int .i64 2) = w2_1' at *
  have G := g_1
  clear g_1
  simp only [List.setIfInBounds_toArray, List.set_cons_zero, List.set_cons_succ] at B_b
  have V_w2'_0 := (V_wq).trans (G.below (V_wq).size (fun q hq => by have := (V_wq).size; simp at hq; omega))
  replace B_a := B_a.only G (by first | (simp; done) | (simp; omega))
  replace B_m := B_m.only G (by first | (simp; done) | (simp; omega))
  replace B_r := B_r.only G (by first | (simp; done) | (simp; omega))
  have sG0 := G.size
  clear G
  clear V_wq
  refine Exists.elim (B_r.row11 (.int .i64 a.P) (.int .i64 a.party) (.int .i64 a.input) (.int .i64 a.mask) (.int .i64 a.delta) (.slice x.sa x.sn x.sc) (.slice x.ka x.kn x.kc) (.int .i64 a.step) (.slice x.ha x.hn x.hc) (.int .i64 2) (.int .i64 a.out)) (fun w2' q => ?_)
  rw [q.1]; replace B_r := q.2.1; have G := q.2.2; clear q
  have V_w2' := (V_w2'_0).trans (G.below (V_w2'_0).size (fun q hq => by have := (V_w2'_0).size; simp at hq; omega))
  replace B_a := B_a.only G (by first | (simp; done) | (simp; omega))
  replace B_m := B_m.only G (by first | (simp; done) | (simp; omega))
  replace B_b := B_b.only G (by first | (simp; done) | (simp; omega))
  have sG1 := G.size
  clear G
  clear V_w2'_0
  have S_w2' : wq.heap.size + 0 ≤ w2'.heap.size := by omega
  clear sG0 sG1
  have l_r := B_r.ldF (n := 11) rfl
  have e_r_0 := B_r.a11_0
  have e_r_1 := B_r.a11_1
  have e_r_2 := B_r.a11_2
  have e_r_3 := B_r.a11_3
  have e_r_4 := B_r.a11_4
  have e_r_5 := B_r.a11_5
  have e_r_6 := B_r.a11_6
  have e_r_7 := B_r.a11_7
  have e_r_8 := B_r.a11_8
  have e_r_9 := B_r.a11_9
  have e_r_10 := B_r.a11_10
  exact bodyPost_ret (v := .agg #[.int .i64 a.P, .int .i64 a.party, .int .i64 a.input, .int .i64 a.mask, .int .i64 a.delta, .slice x.sa x.sn x.sc, .slice x.ka x.kn x.kc, .int .i64 a.step, .slice x.ha x.hn x.hc, .int .i64 2, .int .i64 a.out]) (by simp [results, Tryd.results91, go_sem, e_r_0, e_r_1, e_r_2, e_r_3, e_r_4, e_r_5, e_r_6, e_r_7, e_r_8, e_r_9, e_r_10]) rfl ⟨x, rfl, LB.out.below V_w2', V_w2'⟩
set_option maxHeartbeats 16000000 in
set_option maxRecDepth 100000 in
theorem ptTake_st (a : Pl) (x : PlX) (fr st : Int) (b : Option Addr) (n c : Nat) (body : List Int) (w : World) (F : List Nat) (_hF : ∀ q ∈ F, q < w.heap.size) (hPB : PlB F w x a.shares a.keys a.heard) (hM : Ints w b n c body) (hN : PlN a) (hs : a.step ≤ 2) (hb1 : fr = 1 - a.party) (hb2 : st ≠ a.step) :
    Calls Tryd.prog 91 #[.agg #[.int .i64 a.P, .int .i64 a.party, .int .i64 a.input, .int .i64 a.mask, .int .i64 a.delta, .slice x.sa x.sn x.sc, .slice x.ka x.kn x.kc, .int .i64 a.step, .slice x.ha x.hn x.hc, .int .i64 a.status, .int .i64 a.out], .agg #[.int .i64 fr, .int .i64 st, .slice b n c]] w fun e w' => ∃ y, e = .returned (.agg #[.int .i64 a.P, .int .i64 a.party, .int .i64 a.input, .int .i64 a.mask, .int .i64 a.delta, .slice y.sa y.sn y.sc, .slice y.ka y.kn y.kc, .int .i64 a.step, .slice y.ha y.hn y.hc, .int .i64 2, .int .i64 a.out]) ∧ PlB F w' y a.shares a.keys (a.heard) ∧ Below w.heap.size w w' := by
  have h := hPB.rd
  have LB := Lib.hid hPB
  clear hPB
  have hp1 := hN.p1
  have hp2 := hN.p2
  have hpa := hN.pa
  have hst := hN.stp
  have hnl := hM.le
  have t1 : IntKind.i64.wrap (1 - a.party) = 1 - a.party := IntWalk.i64_in _ (by omega)
  have t2 : IntKind.i64.wrap (a.P - 1) = a.P - 1 := IntWalk.i64_in _ (by omega)
  have CL : ∀ (W : World), Calls Tryd.prog 88 #[.int .i64 a.step] W fun e w' => e = .returned (.int .i64 (blen a.step.toNat)) ∧ Below W.heap.size W w' := fun W => by
    have := ptLength_any a.step.toNat W (by omega)
    rwa [Int.toNat_of_nonneg hst.1] at this
  have C4 := fun (W : World) (h2 : Ints W b n c body) => ((l1All_any b n c body 0 (a.P - 1) W h2).mono (fun _ _ ⟨he, hq⟩ => ⟨he, below_of_quiet hq⟩) : Calls Tryd.prog 100 #[.slice b n c, .int .i64 0, .int .i64 (a.P - 1)] W fun e w' => e = .returned (.bool (allB body 0 (a.P - 1))) ∧ Below W.heap.size W w')
  have C5 := fun (hl : n = blen a.step.toNat) (hr : ∀ v ∈ body, 0 ≤ v ∧ v ≤ a.P - 1) (W : World) (h2 : PlR W x a.shares a.keys a.heard) (h3 : Ints W b n c body) => ptHolds_any a x b n c body W h2 h3 hN hs hl hr
  subst hb1
  have d1 : (((1 - a.party) != 1 - a.party) : Bool) = false := by simp
  have d2 : ((st != a.step) : Bool) = true := by simp; omega
  have LH := Lib.hid h
  have LM := Lib.hid hM
  replace CL := Lib.hid CL
  replace C4 := Lib.hid C4
  replace C5 := Lib.hid C5
  clear h hM hN hs
  clear hb2
  go_enter Tryd.func91, Tryd.ntmps91
  go_upto_region 2 with fail
  refine Exists.elim (Blk.new_ w (b := w.heap.size) rfl 31 #[.int .i64 a.P, .int .i64 a.party, .int .i64 a.input, .int .i64 a.mask, .int .i64 a.delta, .slice x.sa x.sn x.sc, .slice x.ka x.kn x.kc, .int .i64 a.step, .slice x.ha x.hn x.hc, .int .i64 a.status, .int .i64 a.out]) (fun w1_a0' q => ?_)
  rw [q.1]; have B_a := q.2.1; have s_w1_a0' := q.2.2.1; have u_w1_a0' := q.2.2.2; clear q
  refine Exists.elim (Blk.new_ w1_a0' (b := w.heap.size + 1) s_w1_a0' 44 #[.int .i64 (1 - a.party), .int .i64 st, .slice b n c]) (fun w1_a1' q => ?_)
  rw [q.1]; have B_m := q.2.1; have s_w1_a1' := q.2.2.1; have u_w1_a1' := q.2.2.2; clear q
  refine Exists.elim (Blk.new_ w1_a1' (b := w.heap.size + 2) s_w1_a1' 31 #[.int .i64 0, .int .i64 0, .int .i64 0, .int .i64 0, .int .i64 0, .slice none 0 0, .slice none 0 0, .int .i64 0, .slice none 0 0, .int .i64 0, .int .i64 0]) (fun w1_a2' q => ?_)
  rw [q.1]; have B_r := q.2.1; have s_w1_a2' := q.2.2.1; have u_w1_a2' := q.2.2.2; clear q
  refine Exists.elim (Blk.new_ w1_a2' (b := w.heap.size + 3) s_w1_a2' 31 #[.int .i64 a.P, .int .i64 a.party, .int .i64 a.input, .int .i64 a.mask, .int .i64 a.delta, .slice x.sa x.sn x.sc, .slice x.ka x.kn x.kc, .int .i64 a.step, .slice x.ha x.hn x.hc, .int .i64 a.status, .int .i64 a.out]) (fun w1' q => ?_)
  rw [q.1]; have B_b := q.2.1; have s_w1' := q.2.2.1; have u_w1' := q.2.2.2; clear q
  replace B_a := (((B_a.below u_w1_a1').below u_w1_a2').below u_w1')
  replace B_m := ((B_m.below u_w1_a2').below u_w1')
  replace B_r := (B_r.below u_w1')
  have U := (u_w1_a0'.trans ((u_w1_a1'.trans ((u_w1_a2'.trans (u_w1'.mono u_w1_a2'.size)).mono u_w1_a1'.size)).mono u_w1_a0'.size))
  have S_w1' : w.heap.size + 4 ≤ w1'.heap.size := Nat.le_of_eq s_w1'.symm
  have V_w1' := (Below.refl w.heap.size w).trans (U.mono ((Below.refl w.heap.size w)).size)
  clear u_w1_a0' u_w1_a1' u_w1_a2' u_w1' s_w1_a0' s_w1_a1' s_w1_a2' s_w1' U
  try rw [show w.heap.size + 1 + 1 + 1 = w.heap.size + 3 from rfl]
  try rw [show w.heap.size + 1 + 1 = w.heap.size + 2 from rfl]
  have l_a := B_a.ldF (n := 11) rfl
  have e_a_0 := B_a.a11_0
  have e_a_1 := B_a.a11_1
  have e_a_2 := B_a.a11_2
  have e_a_3 := B_a.a11_3
  have e_a_4 := B_a.a11_4
  have e_a_5 := B_a.a11_5
  have e_a_6 := B_a.a11_6
  have e_a_7 := B_a.a11_7
  have e_a_8 := B_a.a11_8
  have e_a_9 := B_a.a11_9
  have e_a_10 := B_a.a11_10
  have l_m := B_m.ldF (n := 3) rfl
  have e_m_0 := B_m.a3_0
  have e_m_1 := B_m.a3_1
  have e_m_2 := B_m.a3_2
  go_wp2
  go_quiet (fail)
  clear l_a e_a_0 e_a_1 e_a_2 e_a_3 e_a_4 e_a_5 e_a_6 e_a_7 e_a_8 e_a_9 e_a_10 l_m e_m_0 e_m_1 e_m_2
  have u9 : Below w1'.heap.size w1' (w1'.drewN nq) := below_of_drewN _
  generalize hwq : w1'.drewN nq = wq at *
  clear hwq
  replace B_a := B_a.below u9
  replace B_m := B_m.below u9
  replace B_r := B_r.below u9
  replace B_b := B_b.below u9
  have S_wq := u9.size
  have V_wq : Below w.heap.size w wq := V_w1'.trans (u9.mono V_w1'.size)
  clear V_w1'
  clear u9
  have l_b := B_b.ldF (n := 11) rfl
  have e_b_0 := B_b.a11_0
  have f_b_0 := B_b.frozen 0
  have e_b_1 := B_b.a11_1
  have f_b_1 := B_b.frozen 1
  have e_b_2 := B_b.a11_2
  have f_b_2 := B_b.frozen 2
  have e_b_3 := B_b.a11_3
  have f_b_3 := B_b.frozen 3
  have e_b_4 := B_b.a11_4
  have f_b_4 := B_b.frozen 4
  have e_b_5 := B_b.a11_5
  have f_b_5 := B_b.frozen 5
  have e_b_6 := B_b.a11_6
  have f_b_6 := B_b.frozen 6
  have e_b_7 := B_b.a11_7
  have f_b_7 := B_b.frozen 7
  have e_b_8 := B_b.a11_8
  have f_b_8 := B_b.frozen 8
  have e_b_9 := B_b.a11_9
  have f_b_9 := B_b.frozen 9
  have e_b_10 := B_b.a11_10
  have f_b_10 := B_b.frozen 10
  have l_r := B_r.ldF (n := 11) rfl
  have e_r_0 := B_r.a11_0
  have f_r_0 := B_r.frozen 0
  have e_r_1 := B_r.a11_1
  have f_r_1 := B_r.frozen 1
  have e_r_2 := B_r.a11_2
  have f_r_2 := B_r.frozen 2
  have e_r_3 := B_r.a11_3
  have f_r_3 := B_r.frozen 3
  have e_r_4 := B_r.a11_4
  have f_r_4 := B_r.frozen 4
  have e_r_5 := B_r.a11_5
  have f_r_5 := B_r.frozen 5
  have e_r_6 := B_r.a11_6
  have f_r_6 := B_r.frozen 6
  have e_r_7 := B_r.a11_7
  have f_r_7 := B_r.frozen 7
  have e_r_8 := B_r.a11_8
  have f_r_8 := B_r.frozen 8
  have e_r_9 := B_r.a11_9
  have f_r_9 := B_r.frozen 9
  have e_r_10 := B_r.a11_10
  have f_r_10 := B_r.frozen 10
  go_wp2
  clear l_b e_b_0 f_b_0 e_b_1 f_b_1 e_b_2 f_b_2 e_b_3 f_b_3 e_b_4 f_b_4 e_b_5 f_b_5 e_b_6 f_b_6 e_b_7 f_b_7 e_b_8 f_b_8 e_b_9 f_b_9 e_b_10 f_b_10 l_r e_r_0 f_r_0 e_r_1 f_r_1 e_r_2 f_r_2 e_r_3 f_r_3 e_r_4 f_r_4 e_r_5 f_r_5 e_r_6 f_r_6 e_r_7 f_r_7 e_r_8 f_r_8 e_r_9 f_r_9 e_r_10 f_r_10
  have g_1 : Only [w.heap.size + 3] wq (wq.setCell ⟨w.heap.size + 3, 9, none⟩ (.int .i64 2)) := (Only.refl _ _).setCell _ _ (by simp)
  replace B_b := B_b.set_ 9 (.int .i64 2)
  generalize wq.setCell ⟨w.heap.size + 3, 9, none⟩ (.int .i64 2) = w2_1' at *
  have G := g_1
  clear g_1
  simp only [List.setIfInBounds_toArray, List.set_cons_zero, List.set_cons_succ] at B_b
  have V_w2'_0 := (V_wq).trans (G.below (V_wq).size (fun q hq => by have := (V_wq).size; simp at hq; omega))
  replace B_a := B_a.only G (by first | (simp; done) | (simp; omega))
  replace B_m := B_m.only G (by first | (simp; done) | (simp; omega))
  replace B_r := B_r.only G (by first | (simp; done) | (simp; omega))
  have sG0 := G.size
  clear G
  clear V_wq
  refine Exists.elim (B_r.row11 (.int .i64 a.P) (.int .i64 a.party) (.int .i64 a.input) (.int .i64 a.mask) (.int .i64 a.delta) (.slice x.sa x.sn x.sc) (.slice x.ka x.kn x.kc) (.int .i64 a.step) (.slice x.ha x.hn x.hc) (.int .i64 2) (.int .i64 a.out)) (fun w2' q => ?_)
  rw [q.1]; replace B_r := q.2.1; have G := q.2.2; clear q
  have V_w2' := (V_w2'_0).trans (G.below (V_w2'_0).size (fun q hq => by have := (V_w2'_0).size; simp at hq; omega))
  replace B_a := B_a.only G (by first | (simp; done) | (simp; omega))
  replace B_m := B_m.only G (by first | (simp; done) | (simp; omega))
  replace B_b := B_b.only G (by first | (simp; done) | (simp; omega))
  have sG1 := G.size
  clear G
  clear V_w2'_0
  have S_w2' : wq.heap.size + 0 ≤ w2'.heap.size := by omega
  clear sG0 sG1
  have l_r := B_r.ldF (n := 11) rfl
  have e_r_0 := B_r.a11_0
  have e_r_1 := B_r.a11_1
  have e_r_2 := B_r.a11_2
  have e_r_3 := B_r.a11_3
  have e_r_4 := B_r.a11_4
  have e_r_5 := B_r.a11_5
  have e_r_6 := B_r.a11_6
  have e_r_7 := B_r.a11_7
  have e_r_8 := B_r.a11_8
  have e_r_9 := B_r.a11_9
  have e_r_10 := B_r.a11_10
  exact bodyPost_ret (v := .agg #[.int .i64 a.P, .int .i64 a.party, .int .i64 a.input, .int .i64 a.mask, .int .i64 a.delta, .slice x.sa x.sn x.sc, .slice x.ka x.kn x.kc, .int .i64 a.step, .slice x.ha x.hn x.hc, .int .i64 2, .int .i64 a.out]) (by simp [results, Tryd.results91, go_sem, e_r_0, e_r_1, e_r_2, e_r_3, e_r_4, e_r_5, e_r_6, e_r_7, e_r_8, e_r_9, e_r_10]) rfl ⟨x, rfl, LB.out.below V_w2', V_w2'⟩
set_option maxHeartbeats 16000000 in
set_option maxRecDepth 100000 in
theorem ptTake_len (a : Pl) (x : PlX) (fr st : Int) (b : Option Addr) (n c : Nat) (body : List Int) (w : World) (F : List Nat) (_hF : ∀ q ∈ F, q < w.heap.size) (hPB : PlB F w x a.shares a.keys a.heard) (hM : Ints w b n c body) (hN : PlN a) (hs : a.step ≤ 2) (hb1 : fr = 1 - a.party) (hb2 : st = a.step) (hb3 : n ≠ blen a.step.toNat) :
    Calls Tryd.prog 91 #[.agg #[.int .i64 a.P, .int .i64 a.party, .int .i64 a.input, .int .i64 a.mask, .int .i64 a.delta, .slice x.sa x.sn x.sc, .slice x.ka x.kn x.kc, .int .i64 a.step, .slice x.ha x.hn x.hc, .int .i64 a.status, .int .i64 a.out], .agg #[.int .i64 fr, .int .i64 st, .slice b n c]] w fun e w' => ∃ y, e = .returned (.agg #[.int .i64 a.P, .int .i64 a.party, .int .i64 a.input, .int .i64 a.mask, .int .i64 a.delta, .slice y.sa y.sn y.sc, .slice y.ka y.kn y.kc, .int .i64 a.step, .slice y.ha y.hn y.hc, .int .i64 2, .int .i64 a.out]) ∧ PlB F w' y a.shares a.keys (a.heard) ∧ Below w.heap.size w w' := by
  have h := hPB.rd
  have LB := Lib.hid hPB
  clear hPB
  have hp1 := hN.p1
  have hp2 := hN.p2
  have hpa := hN.pa
  have hst := hN.stp
  have hnl := hM.le
  have t1 : IntKind.i64.wrap (1 - a.party) = 1 - a.party := IntWalk.i64_in _ (by omega)
  have t2 : IntKind.i64.wrap (a.P - 1) = a.P - 1 := IntWalk.i64_in _ (by omega)
  have CL : ∀ (W : World), Calls Tryd.prog 88 #[.int .i64 a.step] W fun e w' => e = .returned (.int .i64 (blen a.step.toNat)) ∧ Below W.heap.size W w' := fun W => by
    have := ptLength_any a.step.toNat W (by omega)
    rwa [Int.toNat_of_nonneg hst.1] at this
  have C4 := fun (W : World) (h2 : Ints W b n c body) => ((l1All_any b n c body 0 (a.P - 1) W h2).mono (fun _ _ ⟨he, hq⟩ => ⟨he, below_of_quiet hq⟩) : Calls Tryd.prog 100 #[.slice b n c, .int .i64 0, .int .i64 (a.P - 1)] W fun e w' => e = .returned (.bool (allB body 0 (a.P - 1))) ∧ Below W.heap.size W w')
  have C5 := fun (hl : n = blen a.step.toNat) (hr : ∀ v ∈ body, 0 ≤ v ∧ v ≤ a.P - 1) (W : World) (h2 : PlR W x a.shares a.keys a.heard) (h3 : Ints W b n c body) => ptHolds_any a x b n c body W h2 h3 hN hs hl hr
  subst hb1
  have d1 : (((1 - a.party) != 1 - a.party) : Bool) = false := by simp
  subst hb2
  have d2 : ((a.step != a.step) : Bool) = false := by simp
  generalize hbn : blen a.step.toNat = B at *
  have d3 : (((n : Int) != (B : Int)) : Bool) = true := by simp; omega
  have LH := Lib.hid h
  have LM := Lib.hid hM
  replace CL := Lib.hid CL
  replace C4 := Lib.hid C4
  replace C5 := Lib.hid C5
  clear h hM hN hs
  clear hb3 hbn
  go_enter Tryd.func91, Tryd.ntmps91
  go_upto_region 2 with fail
  refine Exists.elim (Blk.new_ w (b := w.heap.size) rfl 31 #[.int .i64 a.P, .int .i64 a.party, .int .i64 a.input, .int .i64 a.mask, .int .i64 a.delta, .slice x.sa x.sn x.sc, .slice x.ka x.kn x.kc, .int .i64 a.step, .slice x.ha x.hn x.hc, .int .i64 a.status, .int .i64 a.out]) (fun w1_a0' q => ?_)
  rw [q.1]; have B_a := q.2.1; have s_w1_a0' := q.2.2.1; have u_w1_a0' := q.2.2.2; clear q
  refine Exists.elim (Blk.new_ w1_a0' (b := w.heap.size + 1) s_w1_a0' 44 #[.int .i64 (1 - a.party), .int .i64 a.step, .slice b n c]) (fun w1_a1' q => ?_)
  rw [q.1]; have B_m := q.2.1; have s_w1_a1' := q.2.2.1; have u_w1_a1' := q.2.2.2; clear q
  refine Exists.elim (Blk.new_ w1_a1' (b := w.heap.size + 2) s_w1_a1' 31 #[.int .i64 0, .int .i64 0, .int .i64 0, .int .i64 0, .int .i64 0, .slice none 0 0, .slice none 0 0, .int .i64 0, .slice none 0 0, .int .i64 0, .int .i64 0]) (fun w1_a2' q => ?_)
  rw [q.1]; have B_r := q.2.1; have s_w1_a2' := q.2.2.1; have u_w1_a2' := q.2.2.2; clear q
  refine Exists.elim (Blk.new_ w1_a2' (b := w.heap.size + 3) s_w1_a2' 31 #[.int .i64 a.P, .int .i64 a.party, .int .i64 a.input, .int .i64 a.mask, .int .i64 a.delta, .slice x.sa x.sn x.sc, .slice x.ka x.kn x.kc, .int .i64 a.step, .slice x.ha x.hn x.hc, .int .i64 a.status, .int .i64 a.out]) (fun w1' q => ?_)
  rw [q.1]; have B_b := q.2.1; have s_w1' := q.2.2.1; have u_w1' := q.2.2.2; clear q
  replace B_a := (((B_a.below u_w1_a1').below u_w1_a2').below u_w1')
  replace B_m := ((B_m.below u_w1_a2').below u_w1')
  replace B_r := (B_r.below u_w1')
  have U := (u_w1_a0'.trans ((u_w1_a1'.trans ((u_w1_a2'.trans (u_w1'.mono u_w1_a2'.size)).mono u_w1_a1'.size)).mono u_w1_a0'.size))
  have S_w1' : w.heap.size + 4 ≤ w1'.heap.size := Nat.le_of_eq s_w1'.symm
  have V_w1' := (Below.refl w.heap.size w).trans (U.mono ((Below.refl w.heap.size w)).size)
  clear u_w1_a0' u_w1_a1' u_w1_a2' u_w1' s_w1_a0' s_w1_a1' s_w1_a2' s_w1' U
  try rw [show w.heap.size + 1 + 1 + 1 = w.heap.size + 3 from rfl]
  try rw [show w.heap.size + 1 + 1 = w.heap.size + 2 from rfl]
  have l_a := B_a.ldF (n := 11) rfl
  have e_a_0 := B_a.a11_0
  have e_a_1 := B_a.a11_1
  have e_a_2 := B_a.a11_2
  have e_a_3 := B_a.a11_3
  have e_a_4 := B_a.a11_4
  have e_a_5 := B_a.a11_5
  have e_a_6 := B_a.a11_6
  have e_a_7 := B_a.a11_7
  have e_a_8 := B_a.a11_8
  have e_a_9 := B_a.a11_9
  have e_a_10 := B_a.a11_10
  have l_m := B_m.ldF (n := 3) rfl
  have e_m_0 := B_m.a3_0
  have e_m_1 := B_m.a3_1
  have e_m_2 := B_m.a3_2
  go_wp2
  refine wp_region_noPanic ?_
  refine wp_region_held_drew (S := (fun W => Blk W (w.heap.size) 31 #[.int .i64 a.P, .int .i64 a.party, .int .i64 a.input, .int .i64 a.mask, .int .i64 a.delta, .slice x.sa x.sn x.sc, .slice x.ka x.kn x.kc, .int .i64 a.step, .slice x.ha x.hn x.hc, .int .i64 a.status, .int .i64 a.out] ∧ Blk W (w.heap.size + 1) 44 #[.int .i64 (1 - a.party), .int .i64 a.step, .slice b n c])) (by kernel_rfl) ?hS1 (fun hHeld => ?go1)
  case hS1 => exact ⟨B_a.drew, B_m.drew⟩
  refine wpAnyH_take (i := 0) (oi := { dst := some 7, op := _, type := _, pos := _, after := _, guard := _ }) (v := ?v0_2) rfl (by kernel_rfl) (by kernel_rfl) (by kernel_rfl) (fun _ _ _ h => h) (Or.inl ⟨by rfl, ?hy0_2⟩) hHeld ?rest0_2
  case hy0_2 => (intro w _; first | (go_simp; done) | (go_simp; with_reducible rfl) | (with_reducible rfl))
  (try simp only [Act.put, List.setIfInBounds_toArray, List.set_cons_zero, List.set_cons_succ])
  refine wpAnyH_take (i := 1) (oi := { dst := some 8, op := _, type := _, pos := _, after := _, guard := _ }) (v := ?v1_3) rfl (by kernel_rfl) (by kernel_rfl) (by kernel_rfl) (fun _ _ _ h => h) (Or.inl ⟨by rfl, ?hy1_3⟩) hHeld ?rest1_3
  case hy1_3 => (intro w hSw; obtain ⟨qS0, qS1⟩ := hSw; have cS0_0 := qS0.cell 0; have cS0_1 := qS0.cell 1; have cS0_2 := qS0.cell 2; have cS0_3 := qS0.cell 3; have cS0_4 := qS0.cell 4; have cS0_5 := qS0.cell 5; have cS0_6 := qS0.cell 6; have cS0_7 := qS0.cell 7; have cS0_8 := qS0.cell 8; have cS0_9 := qS0.cell 9; have cS0_10 := qS0.cell 10; have cS1_0 := qS1.cell 0; have cS1_1 := qS1.cell 1; have cS1_2 := qS1.cell 2; first | (go_simp; done) | (go_simp; with_reducible rfl) | (with_reducible rfl))
  (try simp only [Act.put, List.setIfInBounds_toArray, List.set_cons_zero, List.set_cons_succ])
  refine wpAnyH_take (i := 2) (oi := { dst := some 9, op := _, type := _, pos := _, after := _, guard := _ }) (v := ?v2_4) rfl (by kernel_rfl) (by kernel_rfl) (by kernel_rfl) (fun _ _ _ h => h) (Or.inl ⟨by rfl, ?hy2_4⟩) hHeld ?rest2_4
  case hy2_4 => (intro w _; first | (go_simp; done) | (go_simp; with_reducible rfl) | (with_reducible rfl))
  (try simp only [Act.put, List.setIfInBounds_toArray, List.set_cons_zero, List.set_cons_succ])
  refine wpAnyH_take (i := 3) (oi := { dst := some 10, op := _, type := _, pos := _, after := _, guard := _ }) (v := ?v3_5) rfl (by kernel_rfl) (by kernel_rfl) (by kernel_rfl) (fun _ _ _ h => h) (Or.inl ⟨by rfl, ?hy3_5⟩) hHeld ?rest3_5
  case hy3_5 => (intro w hSw; obtain ⟨qS0, qS1⟩ := hSw; have cS0_0 := qS0.cell 0; have cS0_1 := qS0.cell 1; have cS0_2 := qS0.cell 2; have cS0_3 := qS0.cell 3; have cS0_4 := qS0.cell 4; have cS0_5 := qS0.cell 5; have cS0_6 := qS0.cell 6; have cS0_7 := qS0.cell 7; have cS0_8 := qS0.cell 8; have cS0_9 := qS0.cell 9; have cS0_10 := qS0.cell 10; have cS1_0 := qS1.cell 0; have cS1_1 := qS1.cell 1; have cS1_2 := qS1.cell 2; first | (go_simp; done) | (go_simp; with_reducible rfl) | (with_reducible rfl))
  (try simp only [Act.put, List.setIfInBounds_toArray, List.set_cons_zero, List.set_cons_succ])
  refine wpAnyH_take (i := 4) (oi := { dst := some 11, op := _, type := _, pos := _, after := _, guard := _ }) (v := ?v4_6) rfl (by kernel_rfl) (by kernel_rfl) (by kernel_rfl) (fun _ _ _ h => h) (Or.inl ⟨by rfl, ?hy4_6⟩) hHeld ?rest4_6
  case hy4_6 => (intro w _; first | (go_simp; done) | (go_simp; with_reducible rfl) | (with_reducible rfl))
  (try simp only [Act.put, List.setIfInBounds_toArray, List.set_cons_zero, List.set_cons_succ])
  refine wpAnyH_take (i := 5) (oi := { dst := some 12, op := _, type := _, pos := _, after := _, guard := _ }) (v := ?v5_7) rfl (by kernel_rfl) (by kernel_rfl) (by kernel_rfl) (fun _ _ _ h => h) (Or.inl ⟨by rfl, ?hy5_7⟩) hHeld ?rest5_7
  case hy5_7 => (intro w _; first | (go_simp; done) | (go_simp; with_reducible rfl) | (with_reducible rfl))
  (try simp only [Act.put, List.setIfInBounds_toArray, List.set_cons_zero, List.set_cons_succ])
  refine wpAnyH_take (i := 6) (oi := { dst := some 13, op := _, type := _, pos := _, after := _, guard := _ }) (v := ?v6_8) rfl (by kernel_rfl) (by kernel_rfl) (by kernel_rfl) (fun _ _ _ h => h) (Or.inl ⟨by rfl, ?hy6_8⟩) hHeld ?rest6_8
  case hy6_8 => (intro w _; first | (go_simp; done) | (go_simp; with_reducible rfl) | (with_reducible rfl))
  (try simp only [Act.put, List.setIfInBounds_toArray, List.set_cons_zero, List.set_cons_succ])
  refine wpAnyH_take (i := 7) (oi := { dst := some 14, op := _, type := _, pos := _, after := _, guard := _ }) (v := ?v7_9) rfl (by kernel_rfl) (by kernel_rfl) (by kernel_rfl) (fun _ _ _ h => h) (Or.inl ⟨by rfl, ?hy7_9⟩) hHeld ?rest7_9
  case hy7_9 => (intro w _; first | (go_simp; done) | (go_simp; with_reducible rfl) | (with_reducible rfl))
  (try simp only [Act.put, List.setIfInBounds_toArray, List.set_cons_zero, List.set_cons_succ])
  refine wpAnyH_take (i := 8) (oi := { dst := some 15, op := _, type := _, pos := _, after := _, guard := _ }) (v := ?v8_10) rfl (by kernel_rfl) (by kernel_rfl) (by kernel_rfl) (fun _ _ _ h => h) (Or.inl ⟨by rfl, ?hy8_10⟩) hHeld ?rest8_10
  case hy8_10 => (intro w hSw; obtain ⟨qS0, qS1⟩ := hSw; have cS0_0 := qS0.cell 0; have cS0_1 := qS0.cell 1; have cS0_2 := qS0.cell 2; have cS0_3 := qS0.cell 3; have cS0_4 := qS0.cell 4; have cS0_5 := qS0.cell 5; have cS0_6 := qS0.cell 6; have cS0_7 := qS0.cell 7; have cS0_8 := qS0.cell 8; have cS0_9 := qS0.cell 9; have cS0_10 := qS0.cell 10; have cS1_0 := qS1.cell 0; have cS1_1 := qS1.cell 1; have cS1_2 := qS1.cell 2; first | (go_simp; done) | (go_simp; with_reducible rfl) | (with_reducible rfl))
  (try simp only [Act.put, List.setIfInBounds_toArray, List.set_cons_zero, List.set_cons_succ])
  refine wpAnyH_take (i := 9) (oi := { dst := some 16, op := _, type := _, pos := _, after := _, guard := _ }) (v := ?v9_11) rfl (by kernel_rfl) (by kernel_rfl) (by kernel_rfl) (fun _ _ _ h => h) (Or.inl ⟨by rfl, ?hy9_11⟩) hHeld ?rest9_11
  case hy9_11 => (intro w _; first | (go_simp; done) | (go_simp; with_reducible rfl) | (with_reducible rfl))
  (try simp only [Act.put, List.setIfInBounds_toArray, List.set_cons_zero, List.set_cons_succ])
  refine wpAnyH_take (i := 10) (oi := { dst := some 17, op := _, type := _, pos := _, after := _, guard := _ }) (v := ?v10_12) rfl (by kernel_rfl) (by kernel_rfl) (by kernel_rfl) (fun _ _ _ h => h) (Or.inl ⟨by rfl, ?hy10_12⟩) hHeld ?rest10_12
  case hy10_12 => (intro w hSw; obtain ⟨qS0, qS1⟩ := hSw; have cS0_0 := qS0.cell 0; have cS0_1 := qS0.cell 1; have cS0_2 := qS0.cell 2; have cS0_3 := qS0.cell 3; have cS0_4 := qS0.cell 4; have cS0_5 := qS0.cell 5; have cS0_6 := qS0.cell 6; have cS0_7 := qS0.cell 7; have cS0_8 := qS0.cell 8; have cS0_9 := qS0.cell 9; have cS0_10 := qS0.cell 10; have cS1_0 := qS1.cell 0; have cS1_1 := qS1.cell 1; have cS1_2 := qS1.cell 2; first | (go_simp; done) | (go_simp; with_reducible rfl) | (with_reducible rfl))
  (try simp only [Act.put, List.setIfInBounds_toArray, List.set_cons_zero, List.set_cons_succ])
  refine wpAnyH_take (i := 11) (oi := { dst := some 18, op := _, type := _, pos := _, after := _, guard := _ }) (v := ?v11_13) rfl (by kernel_rfl) (by kernel_rfl) (by kernel_rfl) (fun _ _ _ h => h) (Or.inl ⟨by rfl, ?hy11_13⟩) hHeld ?rest11_13
  case hy11_13 => (intro w _; first | (go_simp; done) | (go_simp; with_reducible rfl) | (with_reducible rfl))
  (try simp only [Act.put, List.setIfInBounds_toArray, List.set_cons_zero, List.set_cons_succ])
  refine wpAnyH_take (i := 12) (oi := { dst := some 19, op := _, type := _, pos := _, after := _, guard := _ }) (v := ?v12_14) rfl (by kernel_rfl) (by kernel_rfl) (by kernel_rfl) (fun _ _ _ h => h) (Or.inl ⟨by rfl, ?hy12_14⟩) hHeld ?rest12_14
  case hy12_14 => (intro w _; first | (go_simp; done) | (go_simp; with_reducible rfl) | (with_reducible rfl))
  (try simp only [Act.put, List.setIfInBounds_toArray, List.set_cons_zero, List.set_cons_succ])
  refine wpAnyH_take (i := 13) (oi := { dst := some 20, op := _, type := _, pos := _, after := _, guard := _ }) (v := ?v13_15) rfl (by kernel_rfl) (by kernel_rfl) (by kernel_rfl) (fun _ _ _ h => h) (Or.inl ⟨by rfl, ?hy13_15⟩) hHeld ?rest13_15
  case hy13_15 => (intro w _; first | (go_simp; done) | (go_simp; with_reducible rfl) | (with_reducible rfl))
  (try simp only [Act.put, List.setIfInBounds_toArray, List.set_cons_zero, List.set_cons_succ])
  refine wpAnyH_take (i := 14) (oi := { dst := some 21, op := _, type := _, pos := _, after := _, guard := _ }) (v := ?v14_16) rfl (by kernel_rfl) (by kernel_rfl) (by kernel_rfl) (fun _ _ _ h => h) (Or.inl ⟨by rfl, ?hy14_16⟩) hHeld ?rest14_16
  case hy14_16 => (intro w _; first | (go_simp; done) | (go_simp; with_reducible rfl) | (with_reducible rfl))
  (try simp only [Act.put, List.setIfInBounds_toArray, List.set_cons_zero, List.set_cons_succ])
  refine wpAnyH_take (i := 15) (oi := { dst := some 22, op := _, type := _, pos := _, after := _, guard := _ }) (v := ?v15_17) rfl (by kernel_rfl) (by kernel_rfl) (by kernel_rfl) (fun _ _ _ h => h) (Or.inl ⟨by rfl, ?hy15_17⟩) hHeld ?rest15_17
  case hy15_17 => (intro w hSw; obtain ⟨qS0, qS1⟩ := hSw; have cS0_0 := qS0.cell 0; have cS0_1 := qS0.cell 1; have cS0_2 := qS0.cell 2; have cS0_3 := qS0.cell 3; have cS0_4 := qS0.cell 4; have cS0_5 := qS0.cell 5; have cS0_6 := qS0.cell 6; have cS0_7 := qS0.cell 7; have cS0_8 := qS0.cell 8; have cS0_9 := qS0.cell 9; have cS0_10 := qS0.cell 10; have cS1_0 := qS1.cell 0; have cS1_1 := qS1.cell 1; have cS1_2 := qS1.cell 2; first | (go_simp; done) | (go_simp; with_reducible rfl) | (with_reducible rfl))
  (try simp only [Act.put, List.setIfInBounds_toArray, List.set_cons_zero, List.set_cons_succ])
  refine wpAnyH_take (i := 16) (oi := { dst := some 23, op := _, type := _, pos := _, after := _, guard := _ }) (v := ?v16_18) rfl (by kernel_rfl) (by kernel_rfl) (by kernel_rfl) (fun _ _ _ h => h) (Or.inl ⟨by rfl, ?hy16_18⟩) hHeld ?rest16_18
  case hy16_18 => (intro w _; first | (go_simp; done) | (go_simp; with_reducible rfl) | (with_reducible rfl))
  (try simp only [Act.put, List.setIfInBounds_toArray, List.set_cons_zero, List.set_cons_succ])
  refine wpAnyH_take (i := 17) (oi := { dst := some 24, op := _, type := _, pos := _, after := _, guard := _ }) (v := ?v17_19) rfl (by kernel_rfl) (by kernel_rfl) (by kernel_rfl) (fun _ _ _ h => h) (Or.inl ⟨by rfl, ?hy17_19⟩) hHeld ?rest17_19
  case hy17_19 => (intro w _; first | (go_simp; done) | (go_simp; with_reducible rfl) | (with_reducible rfl))
  (try simp only [Act.put, List.setIfInBounds_toArray, List.set_cons_zero, List.set_cons_succ])
  refine wpAnyH_take (i := 18) (oi := { dst := some 25, op := _, type := _, pos := _, after := _, guard := _ }) (v := ?v18_20) rfl (by kernel_rfl) (by kernel_rfl) (by kernel_rfl) (fun _ _ _ h => h) (Or.inl ⟨by rfl, ?hy18_20⟩) hHeld ?rest18_20
  case hy18_20 => (intro w hSw; obtain ⟨qS0, qS1⟩ := hSw; have cS0_0 := qS0.cell 0; have cS0_1 := qS0.cell 1; have cS0_2 := qS0.cell 2; have cS0_3 := qS0.cell 3; have cS0_4 := qS0.cell 4; have cS0_5 := qS0.cell 5; have cS0_6 := qS0.cell 6; have cS0_7 := qS0.cell 7; have cS0_8 := qS0.cell 8; have cS0_9 := qS0.cell 9; have cS0_10 := qS0.cell 10; have cS1_0 := qS1.cell 0; have cS1_1 := qS1.cell 1; have cS1_2 := qS1.cell 2; first | (go_simp; done) | (go_simp; with_reducible rfl) | (with_reducible rfl))
  (try simp only [Act.put, List.setIfInBounds_toArray, List.set_cons_zero, List.set_cons_succ])
  refine wpAnyH_ready (rs := [19]) (by kernel_rfl) (by simp) ?_
  refine AllReadyH.cons (o := { dst := some 26, op := _, type := _, pos := _, after := _, guard := _ }) rfl (fun K hK => ?_) ?_
  go_simp
  refine (CL.out _).mono ?_
  rintro e wl ⟨rfl, ul⟩
  have A9 := Blk.below B_a.drew ul
  have M9 := Blk.below B_m.drew ul
  refine hK.out _ _ ?_ (fun hHeld => ?_)
  · exact ⟨A9, M9⟩
  clear hK K
  (try simp only [Act.put, List.setIfInBounds_toArray, List.set_cons_zero, List.set_cons_succ])
  refine wpAnyH_take (i := 20) (oi := { dst := some 27, op := _, type := _, pos := _, after := _, guard := _ }) (v := ?v20_21) rfl (by kernel_rfl) (by kernel_rfl) (by kernel_rfl) (fun _ _ _ h => h) (Or.inl ⟨by rfl, ?hy20_21⟩) hHeld ?rest20_21
  case hy20_21 => (intro w _; first | (go_simp; done) | (go_simp; with_reducible rfl) | (with_reducible rfl))
  (try simp only [Act.put, List.setIfInBounds_toArray, List.set_cons_zero, List.set_cons_succ])
  refine wpAnyH_take (i := 21) (oi := { dst := some 28, op := _, type := _, pos := _, after := _, guard := _ }) (v := ?v21_22) rfl (by kernel_rfl) (by kernel_rfl) (by kernel_rfl) (fun _ _ _ h => h) (Or.inl ⟨by rfl, ?hy21_22⟩) hHeld ?rest21_22
  case hy21_22 => (intro w _; first | (go_simp; done) | (go_simp; with_reducible rfl) | (with_reducible rfl))
  (try simp only [Act.put, List.setIfInBounds_toArray, List.set_cons_zero, List.set_cons_succ])
  refine wpAnyH_take (i := 22) (oi := { dst := some 29, op := _, type := _, pos := _, after := _, guard := _ }) (v := ?v22_23) rfl (by kernel_rfl) (by kernel_rfl) (by kernel_rfl) (fun _ _ _ h => h) (Or.inl ⟨by rfl, ?hy22_23⟩) hHeld ?rest22_23
  case hy22_23 => (intro w _; first | (go_simp; done) | (go_simp; with_reducible rfl) | (with_reducible rfl))
  (try simp only [Act.put, List.setIfInBounds_toArray, List.set_cons_zero, List.set_cons_succ])
  refine wpAnyH_take (i := 23) (oi := { dst := some 30, op := _, type := _, pos := _, after := _, guard := _ }) (v := undef) rfl (by kernel_rfl) (by kernel_rfl) (by kernel_rfl) (fun _ _ _ h => h) (Or.inr ⟨by rfl, rfl⟩) hHeld ?rest23_24
  (try simp only [Act.put, List.setIfInBounds_toArray, List.set_cons_zero, List.set_cons_succ])
  refine wpAnyH_take (i := 24) (oi := { dst := some 31, op := _, type := _, pos := _, after := _, guard := _ }) (v := undef) rfl (by kernel_rfl) (by kernel_rfl) (by kernel_rfl) (fun _ _ _ h => h) (Or.inr ⟨by rfl, rfl⟩) hHeld ?rest24_25
  (try simp only [Act.put, List.setIfInBounds_toArray, List.set_cons_zero, List.set_cons_succ])
  refine wpAnyH_take (i := 25) (oi := { dst := some 32, op := _, type := _, pos := _, after := _, guard := _ }) (v := undef) rfl (by kernel_rfl) (by kernel_rfl) (by kernel_rfl) (fun _ _ _ h => h) (Or.inr ⟨by rfl, rfl⟩) hHeld ?rest25_26
  (try simp only [Act.put, List.setIfInBounds_toArray, List.set_cons_zero, List.set_cons_succ])
  refine wpAnyH_take (i := 26) (oi := { dst := some 33, op := _, type := _, pos := _, after := _, guard := _ }) (v := undef) rfl (by kernel_rfl) (by kernel_rfl) (by kernel_rfl) (fun _ _ _ h => h) (Or.inr ⟨by rfl, rfl⟩) hHeld ?rest26_27
  (try simp only [Act.put, List.setIfInBounds_toArray, List.set_cons_zero, List.set_cons_succ])
  refine wpAnyH_take (i := 27) (oi := { dst := some 34, op := _, type := _, pos := _, after := _, guard := _ }) (v := undef) rfl (by kernel_rfl) (by kernel_rfl) (by kernel_rfl) (fun _ _ _ h => h) (Or.inr ⟨by rfl, rfl⟩) hHeld ?rest27_28
  (try simp only [Act.put, List.setIfInBounds_toArray, List.set_cons_zero, List.set_cons_succ])
  refine wpAnyH_take (i := 28) (oi := { dst := some 35, op := _, type := _, pos := _, after := _, guard := _ }) (v := undef) rfl (by kernel_rfl) (by kernel_rfl) (by kernel_rfl) (fun _ _ _ h => h) (Or.inr ⟨by rfl, rfl⟩) hHeld ?rest28_29
  (try simp only [Act.put, List.setIfInBounds_toArray, List.set_cons_zero, List.set_cons_succ])
  refine wpAnyH_take (i := 29) (oi := { dst := some 36, op := _, type := _, pos := _, after := _, guard := _ }) (v := undef) rfl (by kernel_rfl) (by kernel_rfl) (by kernel_rfl) (fun _ _ _ h => h) (Or.inr ⟨by rfl, rfl⟩) hHeld ?rest29_30
  (try simp only [Act.put, List.setIfInBounds_toArray, List.set_cons_zero, List.set_cons_succ])
  refine wpAnyH_take (i := 30) (oi := { dst := some 37, op := _, type := _, pos := _, after := _, guard := _ }) (v := ?v30_31) rfl (by kernel_rfl) (by kernel_rfl) (by kernel_rfl) (fun _ _ _ h => h) (Or.inl ⟨by rfl, ?hy30_31⟩) hHeld ?rest30_31
  case hy30_31 => (intro w _; first | (go_simp; done) | (go_simp; with_reducible rfl) | (with_reducible rfl))
  (try simp only [Act.put, List.setIfInBounds_toArray, List.set_cons_zero, List.set_cons_succ])
  refine wpAnyH_take (i := 31) (oi := { dst := some 38, op := _, type := _, pos := _, after := _, guard := _ }) (v := ?v31_32) rfl (by kernel_rfl) (by kernel_rfl) (by kernel_rfl) (fun _ _ _ h => h) (Or.inl ⟨by rfl, ?hy31_32⟩) hHeld ?rest31_32
  case hy31_32 => (intro w _; first | (go_simp; done) | (go_simp; with_reducible rfl) | (with_reducible rfl))
  (try simp only [Act.put, List.setIfInBounds_toArray, List.set_cons_zero, List.set_cons_succ])
  refine wpAnyH_take (i := 32) (oi := { dst := some 39, op := _, type := _, pos := _, after := _, guard := _ }) (v := undef) rfl (by kernel_rfl) (by kernel_rfl) (by kernel_rfl) (fun _ _ _ h => h) (Or.inr ⟨by rfl, rfl⟩) hHeld ?rest32_33
  (try simp only [Act.put, List.setIfInBounds_toArray, List.set_cons_zero, List.set_cons_succ])
  refine wpAnyH_take (i := 33) (oi := { dst := some 40, op := _, type := _, pos := _, after := _, guard := _ }) (v := undef) rfl (by kernel_rfl) (by kernel_rfl) (by kernel_rfl) (fun _ _ _ h => h) (Or.inr ⟨by rfl, rfl⟩) hHeld ?rest33_34
  (try simp only [Act.put, List.setIfInBounds_toArray, List.set_cons_zero, List.set_cons_succ])
  refine wpAnyH_take (i := 34) (oi := { dst := some 41, op := _, type := _, pos := _, after := _, guard := _ }) (v := undef) rfl (by kernel_rfl) (by kernel_rfl) (by kernel_rfl) (fun _ _ _ h => h) (Or.inr ⟨by rfl, rfl⟩) hHeld ?rest34_35
  (try simp only [Act.put, List.setIfInBounds_toArray, List.set_cons_zero, List.set_cons_succ])
  refine wpAnyH_take (i := 35) (oi := { dst := some 42, op := _, type := _, pos := _, after := _, guard := _ }) (v := undef) rfl (by kernel_rfl) (by kernel_rfl) (by kernel_rfl) (fun _ _ _ h => h) (Or.inr ⟨by rfl, rfl⟩) hHeld ?rest35_36
  (try simp only [Act.put, List.setIfInBounds_toArray, List.set_cons_zero, List.set_cons_succ])
  refine wpAnyH_take (i := 36) (oi := { dst := some 43, op := _, type := _, pos := _, after := _, guard := _ }) (v := undef) rfl (by kernel_rfl) (by kernel_rfl) (by kernel_rfl) (fun _ _ _ h => h) (Or.inr ⟨by rfl, rfl⟩) hHeld ?rest36_37
  (try simp only [Act.put, List.setIfInBounds_toArray, List.set_cons_zero, List.set_cons_succ])
  refine wpAnyH_take (i := 37) (oi := { dst := some 44, op := _, type := _, pos := _, after := _, guard := _ }) (v := ?v37_38) rfl (by kernel_rfl) (by kernel_rfl) (by kernel_rfl) (fun _ _ _ h => h) (Or.inl ⟨by rfl, ?hy37_38⟩) hHeld ?rest37_38
  case hy37_38 => (intro w _; first | (go_simp; done) | (go_simp; with_reducible rfl) | (with_reducible rfl))
  (try simp only [Act.put, List.setIfInBounds_toArray, List.set_cons_zero, List.set_cons_succ])
  refine wpAnyH_done (by kernel_rfl) ?_ _
  refine NoPanic.normal ?_
  rotate_left 1
  exact AllReadyH.nil
  have u9 : Below w1'.heap.size w1' wl := (Below.refl _ _).drew.trans ul
  clear ul A9 M9
  clear l_a e_a_0 e_a_1 e_a_2 e_a_3 e_a_4 e_a_5 e_a_6 e_a_7 e_a_8 e_a_9 e_a_10 l_m e_m_0 e_m_1 e_m_2
  replace B_a := B_a.below u9
  replace B_m := B_m.below u9
  replace B_r := B_r.below u9
  replace B_b := B_b.below u9
  have S_wl := u9.size
  have V_wl : Below w.heap.size w wl := V_w1'.trans (u9.mono V_w1'.size)
  clear V_w1'
  clear u9
  have l_b := B_b.ldF (n := 11) rfl
  have e_b_0 := B_b.a11_0
  have f_b_0 := B_b.frozen 0
  have e_b_1 := B_b.a11_1
  have f_b_1 := B_b.frozen 1
  have e_b_2 := B_b.a11_2
  have f_b_2 := B_b.frozen 2
  have e_b_3 := B_b.a11_3
  have f_b_3 := B_b.frozen 3
  have e_b_4 := B_b.a11_4
  have f_b_4 := B_b.frozen 4
  have e_b_5 := B_b.a11_5
  have f_b_5 := B_b.frozen 5
  have e_b_6 := B_b.a11_6
  have f_b_6 := B_b.frozen 6
  have e_b_7 := B_b.a11_7
  have f_b_7 := B_b.frozen 7
  have e_b_8 := B_b.a11_8
  have f_b_8 := B_b.frozen 8
  have e_b_9 := B_b.a11_9
  have f_b_9 := B_b.frozen 9
  have e_b_10 := B_b.a11_10
  have f_b_10 := B_b.frozen 10
  have l_r := B_r.ldF (n := 11) rfl
  have e_r_0 := B_r.a11_0
  have f_r_0 := B_r.frozen 0
  have e_r_1 := B_r.a11_1
  have f_r_1 := B_r.frozen 1
  have e_r_2 := B_r.a11_2
  have f_r_2 := B_r.frozen 2
  have e_r_3 := B_r.a11_3
  have f_r_3 := B_r.frozen 3
  have e_r_4 := B_r.a11_4
  have f_r_4 := B_r.frozen 4
  have e_r_5 := B_r.a11_5
  have f_r_5 := B_r.frozen 5
  have e_r_6 := B_r.a11_6
  have f_r_6 := B_r.frozen 6
  have e_r_7 := B_r.a11_7
  have f_r_7 := B_r.frozen 7
  have e_r_8 := B_r.a11_8
  have f_r_8 := B_r.frozen 8
  have e_r_9 := B_r.a11_9
  have f_r_9 := B_r.frozen 9
  have e_r_10 := B_r.a11_10
  have f_r_10 := B_r.frozen 10
  go_wp2
  clear l_b e_b_0 f_b_0 e_b_1 f_b_1 e_b_2 f_b_2 e_b_3 f_b_3 e_b_4 f_b_4 e_b_5 f_b_5 e_b_6 f_b_6 e_b_7 f_b_7 e_b_8 f_b_8 e_b_9 f_b_9 e_b_10 f_b_10 l_r e_r_0 f_r_0 e_r_1 f_r_1 e_r_2 f_r_2 e_r_3 f_r_3 e_r_4 f_r_4 e_r_5 f_r_5 e_r_6 f_r_6 e_r_7 f_r_7 e_r_8 f_r_8 e_r_9 f_r_9 e_r_10 f_r_10
  have g_1 : Only [w.heap.size + 3] wl (wl.setCell ⟨w.heap.size + 3, 9, none⟩ (.int .i64 2)) := (Only.refl _ _).setCell _ _ (by simp)
  replace B_b := B_b.set_ 9 (.int .i64 2)
  generalize wl.setCell ⟨w.heap.size + 3, 9, none⟩ (.int .i64 2) = w2_1' at *
  have G := g_1
  clear g_1
  simp only [List.setIfInBounds_toArray, List.set_cons_zero, List.set_cons_succ] at B_b
  have V_w2'_0 := (V_wl).trans (G.below (V_wl).size (fun q hq => by have := (V_wl).size; simp at hq; omega))
  replace B_a := B_a.only G (by first | (simp; done) | (simp; omega))
  replace B_m := B_m.only G (by first | (simp; done) | (simp; omega))
  replace B_r := B_r.only G (by first | (simp; done) | (simp; omega))
  have sG0 := G.size
  clear G
  clear V_wl
  refine Exists.elim (B_r.row11 (.int .i64 a.P) (.int .i64 a.party) (.int .i64 a.input) (.int .i64 a.mask) (.int .i64 a.delta) (.slice x.sa x.sn x.sc) (.slice x.ka x.kn x.kc) (.int .i64 a.step) (.slice x.ha x.hn x.hc) (.int .i64 2) (.int .i64 a.out)) (fun w2' q => ?_)
  rw [q.1]; replace B_r := q.2.1; have G := q.2.2; clear q
  have V_w2' := (V_w2'_0).trans (G.below (V_w2'_0).size (fun q hq => by have := (V_w2'_0).size; simp at hq; omega))
  replace B_a := B_a.only G (by first | (simp; done) | (simp; omega))
  replace B_m := B_m.only G (by first | (simp; done) | (simp; omega))
  replace B_b := B_b.only G (by first | (simp; done) | (simp; omega))
  have sG1 := G.size
  clear G
  clear V_w2'_0
  have S_w2' : wl.heap.size + 0 ≤ w2'.heap.size := by omega
  clear sG0 sG1
  have l_r := B_r.ldF (n := 11) rfl
  have e_r_0 := B_r.a11_0
  have e_r_1 := B_r.a11_1
  have e_r_2 := B_r.a11_2
  have e_r_3 := B_r.a11_3
  have e_r_4 := B_r.a11_4
  have e_r_5 := B_r.a11_5
  have e_r_6 := B_r.a11_6
  have e_r_7 := B_r.a11_7
  have e_r_8 := B_r.a11_8
  have e_r_9 := B_r.a11_9
  have e_r_10 := B_r.a11_10
  exact bodyPost_ret (v := .agg #[.int .i64 a.P, .int .i64 a.party, .int .i64 a.input, .int .i64 a.mask, .int .i64 a.delta, .slice x.sa x.sn x.sc, .slice x.ka x.kn x.kc, .int .i64 a.step, .slice x.ha x.hn x.hc, .int .i64 2, .int .i64 a.out]) (by simp [results, Tryd.results91, go_sem, e_r_0, e_r_1, e_r_2, e_r_3, e_r_4, e_r_5, e_r_6, e_r_7, e_r_8, e_r_9, e_r_10]) rfl ⟨x, rfl, LB.out.below V_w2', V_w2'⟩
set_option maxHeartbeats 16000000 in
set_option maxRecDepth 100000 in
theorem ptTake_all (a : Pl) (x : PlX) (fr st : Int) (b : Option Addr) (n c : Nat) (body : List Int) (w : World) (F : List Nat) (_hF : ∀ q ∈ F, q < w.heap.size) (hPB : PlB F w x a.shares a.keys a.heard) (hM : Ints w b n c body) (hN : PlN a) (hs : a.step ≤ 2) (hb1 : fr = 1 - a.party) (hb2 : st = a.step) (hb3 : n = blen a.step.toNat) (hb4 : allB body 0 (a.P - 1) = false) :
    Calls Tryd.prog 91 #[.agg #[.int .i64 a.P, .int .i64 a.party, .int .i64 a.input, .int .i64 a.mask, .int .i64 a.delta, .slice x.sa x.sn x.sc, .slice x.ka x.kn x.kc, .int .i64 a.step, .slice x.ha x.hn x.hc, .int .i64 a.status, .int .i64 a.out], .agg #[.int .i64 fr, .int .i64 st, .slice b n c]] w fun e w' => ∃ y, e = .returned (.agg #[.int .i64 a.P, .int .i64 a.party, .int .i64 a.input, .int .i64 a.mask, .int .i64 a.delta, .slice y.sa y.sn y.sc, .slice y.ka y.kn y.kc, .int .i64 a.step, .slice y.ha y.hn y.hc, .int .i64 2, .int .i64 a.out]) ∧ PlB F w' y a.shares a.keys (a.heard) ∧ Below w.heap.size w w' := by
  have h := hPB.rd
  have LB := Lib.hid hPB
  clear hPB
  have hp1 := hN.p1
  have hp2 := hN.p2
  have hpa := hN.pa
  have hst := hN.stp
  have hnl := hM.le
  have t1 : IntKind.i64.wrap (1 - a.party) = 1 - a.party := IntWalk.i64_in _ (by omega)
  have t2 : IntKind.i64.wrap (a.P - 1) = a.P - 1 := IntWalk.i64_in _ (by omega)
  have CL : ∀ (W : World), Calls Tryd.prog 88 #[.int .i64 a.step] W fun e w' => e = .returned (.int .i64 (blen a.step.toNat)) ∧ Below W.heap.size W w' := fun W => by
    have := ptLength_any a.step.toNat W (by omega)
    rwa [Int.toNat_of_nonneg hst.1] at this
  have C4 := fun (W : World) (h2 : Ints W b n c body) => ((l1All_any b n c body 0 (a.P - 1) W h2).mono (fun _ _ ⟨he, hq⟩ => ⟨he, below_of_quiet hq⟩) : Calls Tryd.prog 100 #[.slice b n c, .int .i64 0, .int .i64 (a.P - 1)] W fun e w' => e = .returned (.bool (allB body 0 (a.P - 1))) ∧ Below W.heap.size W w')
  have C5 := fun (hl : n = blen a.step.toNat) (hr : ∀ v ∈ body, 0 ≤ v ∧ v ≤ a.P - 1) (W : World) (h2 : PlR W x a.shares a.keys a.heard) (h3 : Ints W b n c body) => ptHolds_any a x b n c body W h2 h3 hN hs hl hr
  subst hb1
  have d1 : (((1 - a.party) != 1 - a.party) : Bool) = false := by simp
  subst hb2
  have d2 : ((a.step != a.step) : Bool) = false := by simp
  generalize hbn : blen a.step.toNat = B at *
  have d3 : (((n : Int) != (B : Int)) : Bool) = false := by simp; omega
  rw [hb4] at C4
  have LH := Lib.hid h
  have LM := Lib.hid hM
  replace CL := Lib.hid CL
  replace C4 := Lib.hid C4
  replace C5 := Lib.hid C5
  clear h hM hN hs
  clear hb3 hbn
  clear hb4
  go_enter Tryd.func91, Tryd.ntmps91
  go_upto_region 2 with fail
  refine Exists.elim (Blk.new_ w (b := w.heap.size) rfl 31 #[.int .i64 a.P, .int .i64 a.party, .int .i64 a.input, .int .i64 a.mask, .int .i64 a.delta, .slice x.sa x.sn x.sc, .slice x.ka x.kn x.kc, .int .i64 a.step, .slice x.ha x.hn x.hc, .int .i64 a.status, .int .i64 a.out]) (fun w1_a0' q => ?_)
  rw [q.1]; have B_a := q.2.1; have s_w1_a0' := q.2.2.1; have u_w1_a0' := q.2.2.2; clear q
  refine Exists.elim (Blk.new_ w1_a0' (b := w.heap.size + 1) s_w1_a0' 44 #[.int .i64 (1 - a.party), .int .i64 a.step, .slice b n c]) (fun w1_a1' q => ?_)
  rw [q.1]; have B_m := q.2.1; have s_w1_a1' := q.2.2.1; have u_w1_a1' := q.2.2.2; clear q
  refine Exists.elim (Blk.new_ w1_a1' (b := w.heap.size + 2) s_w1_a1' 31 #[.int .i64 0, .int .i64 0, .int .i64 0, .int .i64 0, .int .i64 0, .slice none 0 0, .slice none 0 0, .int .i64 0, .slice none 0 0, .int .i64 0, .int .i64 0]) (fun w1_a2' q => ?_)
  rw [q.1]; have B_r := q.2.1; have s_w1_a2' := q.2.2.1; have u_w1_a2' := q.2.2.2; clear q
  refine Exists.elim (Blk.new_ w1_a2' (b := w.heap.size + 3) s_w1_a2' 31 #[.int .i64 a.P, .int .i64 a.party, .int .i64 a.input, .int .i64 a.mask, .int .i64 a.delta, .slice x.sa x.sn x.sc, .slice x.ka x.kn x.kc, .int .i64 a.step, .slice x.ha x.hn x.hc, .int .i64 a.status, .int .i64 a.out]) (fun w1' q => ?_)
  rw [q.1]; have B_b := q.2.1; have s_w1' := q.2.2.1; have u_w1' := q.2.2.2; clear q
  replace B_a := (((B_a.below u_w1_a1').below u_w1_a2').below u_w1')
  replace B_m := ((B_m.below u_w1_a2').below u_w1')
  replace B_r := (B_r.below u_w1')
  have U := (u_w1_a0'.trans ((u_w1_a1'.trans ((u_w1_a2'.trans (u_w1'.mono u_w1_a2'.size)).mono u_w1_a1'.size)).mono u_w1_a0'.size))
  have S_w1' : w.heap.size + 4 ≤ w1'.heap.size := Nat.le_of_eq s_w1'.symm
  have V_w1' := (Below.refl w.heap.size w).trans (U.mono ((Below.refl w.heap.size w)).size)
  clear u_w1_a0' u_w1_a1' u_w1_a2' u_w1' s_w1_a0' s_w1_a1' s_w1_a2' s_w1' U
  try rw [show w.heap.size + 1 + 1 + 1 = w.heap.size + 3 from rfl]
  try rw [show w.heap.size + 1 + 1 = w.heap.size + 2 from rfl]
  have l_a := B_a.ldF (n := 11) rfl
  have e_a_0 := B_a.a11_0
  have e_a_1 := B_a.a11_1
  have e_a_2 := B_a.a11_2
  have e_a_3 := B_a.a11_3
  have e_a_4 := B_a.a11_4
  have e_a_5 := B_a.a11_5
  have e_a_6 := B_a.a11_6
  have e_a_7 := B_a.a11_7
  have e_a_8 := B_a.a11_8
  have e_a_9 := B_a.a11_9
  have e_a_10 := B_a.a11_10
  have l_m := B_m.ldF (n := 3) rfl
  have e_m_0 := B_m.a3_0
  have e_m_1 := B_m.a3_1
  have e_m_2 := B_m.a3_2
  have hMd := (LM.out.below V_w1').below (Below.refl _ _).drew
  go_wp2
  refine wp_region_noPanic ?_
  refine wp_region_held_drew (S := (fun W => Blk W (w.heap.size) 31 #[.int .i64 a.P, .int .i64 a.party, .int .i64 a.input, .int .i64 a.mask, .int .i64 a.delta, .slice x.sa x.sn x.sc, .slice x.ka x.kn x.kc, .int .i64 a.step, .slice x.ha x.hn x.hc, .int .i64 a.status, .int .i64 a.out] ∧ Blk W (w.heap.size + 1) 44 #[.int .i64 (1 - a.party), .int .i64 a.step, .slice b n c])) (by kernel_rfl) ?hS39 (fun hHeld => ?go39)
  case hS39 => exact ⟨B_a.drew, B_m.drew⟩
  refine wpAnyH_take (i := 0) (oi := { dst := some 7, op := _, type := _, pos := _, after := _, guard := _ }) (v := ?v0_40) rfl (by kernel_rfl) (by kernel_rfl) (by kernel_rfl) (fun _ _ _ h => h) (Or.inl ⟨by rfl, ?hy0_40⟩) hHeld ?rest0_40
  case hy0_40 => (intro w _; first | (go_simp; done) | (go_simp; with_reducible rfl) | (with_reducible rfl))
  (try simp only [Act.put, List.setIfInBounds_toArray, List.set_cons_zero, List.set_cons_succ])
  refine wpAnyH_take (i := 1) (oi := { dst := some 8, op := _, type := _, pos := _, after := _, guard := _ }) (v := ?v1_41) rfl (by kernel_rfl) (by kernel_rfl) (by kernel_rfl) (fun _ _ _ h => h) (Or.inl ⟨by rfl, ?hy1_41⟩) hHeld ?rest1_41
  case hy1_41 => (intro w hSw; obtain ⟨qS0, qS1⟩ := hSw; have cS0_0 := qS0.cell 0; have cS0_1 := qS0.cell 1; have cS0_2 := qS0.cell 2; have cS0_3 := qS0.cell 3; have cS0_4 := qS0.cell 4; have cS0_5 := qS0.cell 5; have cS0_6 := qS0.cell 6; have cS0_7 := qS0.cell 7; have cS0_8 := qS0.cell 8; have cS0_9 := qS0.cell 9; have cS0_10 := qS0.cell 10; have cS1_0 := qS1.cell 0; have cS1_1 := qS1.cell 1; have cS1_2 := qS1.cell 2; first | (go_simp; done) | (go_simp; with_reducible rfl) | (with_reducible rfl))
  (try simp only [Act.put, List.setIfInBounds_toArray, List.set_cons_zero, List.set_cons_succ])
  refine wpAnyH_take (i := 2) (oi := { dst := some 9, op := _, type := _, pos := _, after := _, guard := _ }) (v := ?v2_42) rfl (by kernel_rfl) (by kernel_rfl) (by kernel_rfl) (fun _ _ _ h => h) (Or.inl ⟨by rfl, ?hy2_42⟩) hHeld ?rest2_42
  case hy2_42 => (intro w _; first | (go_simp; done) | (go_simp; with_reducible rfl) | (with_reducible rfl))
  (try simp only [Act.put, List.setIfInBounds_toArray, List.set_cons_zero, List.set_cons_succ])
  refine wpAnyH_take (i := 3) (oi := { dst := some 10, op := _, type := _, pos := _, after := _, guard := _ }) (v := ?v3_43) rfl (by kernel_rfl) (by kernel_rfl) (by kernel_rfl) (fun _ _ _ h => h) (Or.inl ⟨by rfl, ?hy3_43⟩) hHeld ?rest3_43
  case hy3_43 => (intro w hSw; obtain ⟨qS0, qS1⟩ := hSw; have cS0_0 := qS0.cell 0; have cS0_1 := qS0.cell 1; have cS0_2 := qS0.cell 2; have cS0_3 := qS0.cell 3; have cS0_4 := qS0.cell 4; have cS0_5 := qS0.cell 5; have cS0_6 := qS0.cell 6; have cS0_7 := qS0.cell 7; have cS0_8 := qS0.cell 8; have cS0_9 := qS0.cell 9; have cS0_10 := qS0.cell 10; have cS1_0 := qS1.cell 0; have cS1_1 := qS1.cell 1; have cS1_2 := qS1.cell 2; first | (go_simp; done) | (go_simp; with_reducible rfl) | (with_reducible rfl))
  (try simp only [Act.put, List.setIfInBounds_toArray, List.set_cons_zero, List.set_cons_succ])
  refine wpAnyH_take (i := 4) (oi := { dst := some 11, op := _, type := _, pos := _, after := _, guard := _ }) (v := ?v4_44) rfl (by kernel_rfl) (by kernel_rfl) (by kernel_rfl) (fun _ _ _ h => h) (Or.inl ⟨by rfl, ?hy4_44⟩) hHeld ?rest4_44
  case hy4_44 => (intro w _; first | (go_simp; done) | (go_simp; with_reducible rfl) | (with_reducible rfl))
  (try simp only [Act.put, List.setIfInBounds_toArray, List.set_cons_zero, List.set_cons_succ])
  refine wpAnyH_take (i := 5) (oi := { dst := some 12, op := _, type := _, pos := _, after := _, guard := _ }) (v := ?v5_45) rfl (by kernel_rfl) (by kernel_rfl) (by kernel_rfl) (fun _ _ _ h => h) (Or.inl ⟨by rfl, ?hy5_45⟩) hHeld ?rest5_45
  case hy5_45 => (intro w _; first | (go_simp; done) | (go_simp; with_reducible rfl) | (with_reducible rfl))
  (try simp only [Act.put, List.setIfInBounds_toArray, List.set_cons_zero, List.set_cons_succ])
  refine wpAnyH_take (i := 6) (oi := { dst := some 13, op := _, type := _, pos := _, after := _, guard := _ }) (v := ?v6_46) rfl (by kernel_rfl) (by kernel_rfl) (by kernel_rfl) (fun _ _ _ h => h) (Or.inl ⟨by rfl, ?hy6_46⟩) hHeld ?rest6_46
  case hy6_46 => (intro w _; first | (go_simp; done) | (go_simp; with_reducible rfl) | (with_reducible rfl))
  (try simp only [Act.put, List.setIfInBounds_toArray, List.set_cons_zero, List.set_cons_succ])
  refine wpAnyH_take (i := 7) (oi := { dst := some 14, op := _, type := _, pos := _, after := _, guard := _ }) (v := ?v7_47) rfl (by kernel_rfl) (by kernel_rfl) (by kernel_rfl) (fun _ _ _ h => h) (Or.inl ⟨by rfl, ?hy7_47⟩) hHeld ?rest7_47
  case hy7_47 => (intro w _; first | (go_simp; done) | (go_simp; with_reducible rfl) | (with_reducible rfl))
  (try simp only [Act.put, List.setIfInBounds_toArray, List.set_cons_zero, List.set_cons_succ])
  refine wpAnyH_take (i := 8) (oi := { dst := some 15, op := _, type := _, pos := _, after := _, guard := _ }) (v := ?v8_48) rfl (by kernel_rfl) (by kernel_rfl) (by kernel_rfl) (fun _ _ _ h => h) (Or.inl ⟨by rfl, ?hy8_48⟩) hHeld ?rest8_48
  case hy8_48 => (intro w hSw; obtain ⟨qS0, qS1⟩ := hSw; have cS0_0 := qS0.cell 0; have cS0_1 := qS0.cell 1; have cS0_2 := qS0.cell 2; have cS0_3 := qS0.cell 3; have cS0_4 := qS0.cell 4; have cS0_5 := qS0.cell 5; have cS0_6 := qS0.cell 6; have cS0_7 := qS0.cell 7; have cS0_8 := qS0.cell 8; have cS0_9 := qS0.cell 9; have cS0_10 := qS0.cell 10; have cS1_0 := qS1.cell 0; have cS1_1 := qS1.cell 1; have cS1_2 := qS1.cell 2; first | (go_simp; done) | (go_simp; with_reducible rfl) | (with_reducible rfl))
  (try simp only [Act.put, List.setIfInBounds_toArray, List.set_cons_zero, List.set_cons_succ])
  refine wpAnyH_take (i := 9) (oi := { dst := some 16, op := _, type := _, pos := _, after := _, guard := _ }) (v := ?v9_49) rfl (by kernel_rfl) (by kernel_rfl) (by kernel_rfl) (fun _ _ _ h => h) (Or.inl ⟨by rfl, ?hy9_49⟩) hHeld ?rest9_49
  case hy9_49 => (intro w _; first | (go_simp; done) | (go_simp; with_reducible rfl) | (with_reducible rfl))
  (try simp only [Act.put, List.setIfInBounds_toArray, List.set_cons_zero, List.set_cons_succ])
  refine wpAnyH_take (i := 10) (oi := { dst := some 17, op := _, type := _, pos := _, after := _, guard := _ }) (v := ?v10_50) rfl (by kernel_rfl) (by kernel_rfl) (by kernel_rfl) (fun _ _ _ h => h) (Or.inl ⟨by rfl, ?hy10_50⟩) hHeld ?rest10_50
  case hy10_50 => (intro w hSw; obtain ⟨qS0, qS1⟩ := hSw; have cS0_0 := qS0.cell 0; have cS0_1 := qS0.cell 1; have cS0_2 := qS0.cell 2; have cS0_3 := qS0.cell 3; have cS0_4 := qS0.cell 4; have cS0_5 := qS0.cell 5; have cS0_6 := qS0.cell 6; have cS0_7 := qS0.cell 7; have cS0_8 := qS0.cell 8; have cS0_9 := qS0.cell 9; have cS0_10 := qS0.cell 10; have cS1_0 := qS1.cell 0; have cS1_1 := qS1.cell 1; have cS1_2 := qS1.cell 2; first | (go_simp; done) | (go_simp; with_reducible rfl) | (with_reducible rfl))
  (try simp only [Act.put, List.setIfInBounds_toArray, List.set_cons_zero, List.set_cons_succ])
  refine wpAnyH_take (i := 11) (oi := { dst := some 18, op := _, type := _, pos := _, after := _, guard := _ }) (v := ?v11_51) rfl (by kernel_rfl) (by kernel_rfl) (by kernel_rfl) (fun _ _ _ h => h) (Or.inl ⟨by rfl, ?hy11_51⟩) hHeld ?rest11_51
  case hy11_51 => (intro w _; first | (go_simp; done) | (go_simp; with_reducible rfl) | (with_reducible rfl))
  (try simp only [Act.put, List.setIfInBounds_toArray, List.set_cons_zero, List.set_cons_succ])
  refine wpAnyH_take (i := 12) (oi := { dst := some 19, op := _, type := _, pos := _, after := _, guard := _ }) (v := ?v12_52) rfl (by kernel_rfl) (by kernel_rfl) (by kernel_rfl) (fun _ _ _ h => h) (Or.inl ⟨by rfl, ?hy12_52⟩) hHeld ?rest12_52
  case hy12_52 => (intro w _; first | (go_simp; done) | (go_simp; with_reducible rfl) | (with_reducible rfl))
  (try simp only [Act.put, List.setIfInBounds_toArray, List.set_cons_zero, List.set_cons_succ])
  refine wpAnyH_take (i := 13) (oi := { dst := some 20, op := _, type := _, pos := _, after := _, guard := _ }) (v := ?v13_53) rfl (by kernel_rfl) (by kernel_rfl) (by kernel_rfl) (fun _ _ _ h => h) (Or.inl ⟨by rfl, ?hy13_53⟩) hHeld ?rest13_53
  case hy13_53 => (intro w _; first | (go_simp; done) | (go_simp; with_reducible rfl) | (with_reducible rfl))
  (try simp only [Act.put, List.setIfInBounds_toArray, List.set_cons_zero, List.set_cons_succ])
  refine wpAnyH_take (i := 14) (oi := { dst := some 21, op := _, type := _, pos := _, after := _, guard := _ }) (v := ?v14_54) rfl (by kernel_rfl) (by kernel_rfl) (by kernel_rfl) (fun _ _ _ h => h) (Or.inl ⟨by rfl, ?hy14_54⟩) hHeld ?rest14_54
  case hy14_54 => (intro w _; first | (go_simp; done) | (go_simp; with_reducible rfl) | (with_reducible rfl))
  (try simp only [Act.put, List.setIfInBounds_toArray, List.set_cons_zero, List.set_cons_succ])
  refine wpAnyH_take (i := 15) (oi := { dst := some 22, op := _, type := _, pos := _, after := _, guard := _ }) (v := ?v15_55) rfl (by kernel_rfl) (by kernel_rfl) (by kernel_rfl) (fun _ _ _ h => h) (Or.inl ⟨by rfl, ?hy15_55⟩) hHeld ?rest15_55
  case hy15_55 => (intro w hSw; obtain ⟨qS0, qS1⟩ := hSw; have cS0_0 := qS0.cell 0; have cS0_1 := qS0.cell 1; have cS0_2 := qS0.cell 2; have cS0_3 := qS0.cell 3; have cS0_4 := qS0.cell 4; have cS0_5 := qS0.cell 5; have cS0_6 := qS0.cell 6; have cS0_7 := qS0.cell 7; have cS0_8 := qS0.cell 8; have cS0_9 := qS0.cell 9; have cS0_10 := qS0.cell 10; have cS1_0 := qS1.cell 0; have cS1_1 := qS1.cell 1; have cS1_2 := qS1.cell 2; first | (go_simp; done) | (go_simp; with_reducible rfl) | (with_reducible rfl))
  (try simp only [Act.put, List.setIfInBounds_toArray, List.set_cons_zero, List.set_cons_succ])
  refine wpAnyH_take (i := 16) (oi := { dst := some 23, op := _, type := _, pos := _, after := _, guard := _ }) (v := ?v16_56) rfl (by kernel_rfl) (by kernel_rfl) (by kernel_rfl) (fun _ _ _ h => h) (Or.inl ⟨by rfl, ?hy16_56⟩) hHeld ?rest16_56
  case hy16_56 => (intro w _; first | (go_simp; done) | (go_simp; with_reducible rfl) | (with_reducible rfl))
  (try simp only [Act.put, List.setIfInBounds_toArray, List.set_cons_zero, List.set_cons_succ])
  refine wpAnyH_take (i := 17) (oi := { dst := some 24, op := _, type := _, pos := _, after := _, guard := _ }) (v := ?v17_57) rfl (by kernel_rfl) (by kernel_rfl) (by kernel_rfl) (fun _ _ _ h => h) (Or.inl ⟨by rfl, ?hy17_57⟩) hHeld ?rest17_57
  case hy17_57 => (intro w _; first | (go_simp; done) | (go_simp; with_reducible rfl) | (with_reducible rfl))
  (try simp only [Act.put, List.setIfInBounds_toArray, List.set_cons_zero, List.set_cons_succ])
  refine wpAnyH_take (i := 18) (oi := { dst := some 25, op := _, type := _, pos := _, after := _, guard := _ }) (v := ?v18_58) rfl (by kernel_rfl) (by kernel_rfl) (by kernel_rfl) (fun _ _ _ h => h) (Or.inl ⟨by rfl, ?hy18_58⟩) hHeld ?rest18_58
  case hy18_58 => (intro w hSw; obtain ⟨qS0, qS1⟩ := hSw; have cS0_0 := qS0.cell 0; have cS0_1 := qS0.cell 1; have cS0_2 := qS0.cell 2; have cS0_3 := qS0.cell 3; have cS0_4 := qS0.cell 4; have cS0_5 := qS0.cell 5; have cS0_6 := qS0.cell 6; have cS0_7 := qS0.cell 7; have cS0_8 := qS0.cell 8; have cS0_9 := qS0.cell 9; have cS0_10 := qS0.cell 10; have cS1_0 := qS1.cell 0; have cS1_1 := qS1.cell 1; have cS1_2 := qS1.cell 2; first | (go_simp; done) | (go_simp; with_reducible rfl) | (with_reducible rfl))
  (try simp only [Act.put, List.setIfInBounds_toArray, List.set_cons_zero, List.set_cons_succ])
  refine wpAnyH_ready (rs := [19]) (by kernel_rfl) (by simp) ?_
  refine AllReadyH.cons (o := { dst := some 26, op := _, type := _, pos := _, after := _, guard := _ }) rfl (fun K hK => ?_) ?_
  go_simp
  refine (CL.out _).mono ?_
  rintro e wl ⟨rfl, ul⟩
  have A9 := Blk.below B_a.drew ul
  have M9 := Blk.below B_m.drew ul
  refine hK.out _ _ ?_ (fun hHeld => ?_)
  · exact ⟨A9, M9⟩
  clear hK K
  (try simp only [Act.put, List.setIfInBounds_toArray, List.set_cons_zero, List.set_cons_succ])
  refine wpAnyH_take (i := 20) (oi := { dst := some 27, op := _, type := _, pos := _, after := _, guard := _ }) (v := ?v20_59) rfl (by kernel_rfl) (by kernel_rfl) (by kernel_rfl) (fun _ _ _ h => h) (Or.inl ⟨by rfl, ?hy20_59⟩) hHeld ?rest20_59
  case hy20_59 => (intro w _; first | (go_simp; done) | (go_simp; with_reducible rfl) | (with_reducible rfl))
  (try simp only [Act.put, List.setIfInBounds_toArray, List.set_cons_zero, List.set_cons_succ])
  refine wpAnyH_take (i := 21) (oi := { dst := some 28, op := _, type := _, pos := _, after := _, guard := _ }) (v := ?v21_60) rfl (by kernel_rfl) (by kernel_rfl) (by kernel_rfl) (fun _ _ _ h => h) (Or.inl ⟨by rfl, ?hy21_60⟩) hHeld ?rest21_60
  case hy21_60 => (intro w _; first | (go_simp; done) | (go_simp; with_reducible rfl) | (with_reducible rfl))
  (try simp only [Act.put, List.setIfInBounds_toArray, List.set_cons_zero, List.set_cons_succ])
  refine wpAnyH_take (i := 22) (oi := { dst := some 29, op := _, type := _, pos := _, after := _, guard := _ }) (v := ?v22_61) rfl (by kernel_rfl) (by kernel_rfl) (by kernel_rfl) (fun _ _ _ h => h) (Or.inl ⟨by rfl, ?hy22_61⟩) hHeld ?rest22_61
  case hy22_61 => (intro w _; first | (go_simp; done) | (go_simp; with_reducible rfl) | (with_reducible rfl))
  (try simp only [Act.put, List.setIfInBounds_toArray, List.set_cons_zero, List.set_cons_succ])
  refine wpAnyH_take (i := 23) (oi := { dst := some 30, op := _, type := _, pos := _, after := _, guard := _ }) (v := ?v23_62) rfl (by kernel_rfl) (by kernel_rfl) (by kernel_rfl) (fun _ _ _ h => h) (Or.inl ⟨by rfl, ?hy23_62⟩) hHeld ?rest23_62
  case hy23_62 => (intro w _; first | (go_simp; done) | (go_simp; with_reducible rfl) | (with_reducible rfl))
  (try simp only [Act.put, List.setIfInBounds_toArray, List.set_cons_zero, List.set_cons_succ])
  refine wpAnyH_take (i := 24) (oi := { dst := some 31, op := _, type := _, pos := _, after := _, guard := _ }) (v := ?v24_63) rfl (by kernel_rfl) (by kernel_rfl) (by kernel_rfl) (fun _ _ _ h => h) (Or.inl ⟨by rfl, ?hy24_63⟩) hHeld ?rest24_63
  case hy24_63 => (intro w hSw; obtain ⟨qS0, qS1⟩ := hSw; have cS0_0 := qS0.cell 0; have cS0_1 := qS0.cell 1; have cS0_2 := qS0.cell 2; have cS0_3 := qS0.cell 3; have cS0_4 := qS0.cell 4; have cS0_5 := qS0.cell 5; have cS0_6 := qS0.cell 6; have cS0_7 := qS0.cell 7; have cS0_8 := qS0.cell 8; have cS0_9 := qS0.cell 9; have cS0_10 := qS0.cell 10; have cS1_0 := qS1.cell 0; have cS1_1 := qS1.cell 1; have cS1_2 := qS1.cell 2; first | (go_simp; done) | (go_simp; with_reducible rfl) | (with_reducible rfl))
  (try simp only [Act.put, List.setIfInBounds_toArray, List.set_cons_zero, List.set_cons_succ])
  refine wpAnyH_take (i := 25) (oi := { dst := some 32, op := _, type := _, pos := _, after := _, guard := _ }) (v := ?v25_64) rfl (by kernel_rfl) (by kernel_rfl) (by kernel_rfl) (fun _ _ _ h => h) (Or.inl ⟨by rfl, ?hy25_64⟩) hHeld ?rest25_64
  case hy25_64 => (intro w _; first | (go_simp; done) | (go_simp; with_reducible rfl) | (with_reducible rfl))
  (try simp only [Act.put, List.setIfInBounds_toArray, List.set_cons_zero, List.set_cons_succ])
  refine wpAnyH_take (i := 26) (oi := { dst := some 33, op := _, type := _, pos := _, after := _, guard := _ }) (v := ?v26_65) rfl (by kernel_rfl) (by kernel_rfl) (by kernel_rfl) (fun _ _ _ h => h) (Or.inl ⟨by rfl, ?hy26_65⟩) hHeld ?rest26_65
  case hy26_65 => (intro w hSw; obtain ⟨qS0, qS1⟩ := hSw; have cS0_0 := qS0.cell 0; have cS0_1 := qS0.cell 1; have cS0_2 := qS0.cell 2; have cS0_3 := qS0.cell 3; have cS0_4 := qS0.cell 4; have cS0_5 := qS0.cell 5; have cS0_6 := qS0.cell 6; have cS0_7 := qS0.cell 7; have cS0_8 := qS0.cell 8; have cS0_9 := qS0.cell 9; have cS0_10 := qS0.cell 10; have cS1_0 := qS1.cell 0; have cS1_1 := qS1.cell 1; have cS1_2 := qS1.cell 2; first | (go_simp; done) | (go_simp; with_reducible rfl) | (with_reducible rfl))
  (try simp only [Act.put, List.setIfInBounds_toArray, List.set_cons_zero, List.set_cons_succ])
  refine wpAnyH_take (i := 27) (oi := { dst := some 34, op := _, type := _, pos := _, after := _, guard := _ }) (v := ?v27_66) rfl (by kernel_rfl) (by kernel_rfl) (by kernel_rfl) (fun _ _ _ h => h) (Or.inl ⟨by rfl, ?hy27_66⟩) hHeld ?rest27_66
  case hy27_66 => (intro w _; first | (go_simp; done) | (go_simp; with_reducible rfl) | (with_reducible rfl))
  (try simp only [Act.put, List.setIfInBounds_toArray, List.set_cons_zero, List.set_cons_succ])
  refine wpAnyH_ready (rs := [28]) (by kernel_rfl) (by simp) ?_
  refine AllReadyH.cons (o := { dst := some 35, op := _, type := _, pos := _, after := _, guard := _ }) rfl (fun K hK => ?_) ?_
  go_simp
  refine (C4.out _ (hMd.below ul)).mono ?_
  rintro e wa ⟨rfl, ua⟩
  refine hK.out _ _ ?_ (fun hHeld => ?_)
  · exact ⟨Blk.below A9 ua, Blk.below M9 ua⟩
  clear hK K
  (try simp only [Act.put, List.setIfInBounds_toArray, List.set_cons_zero, List.set_cons_succ])
  refine wpAnyH_take (i := 29) (oi := { dst := some 36, op := _, type := _, pos := _, after := _, guard := _ }) (v := ?v29_67) rfl (by kernel_rfl) (by kernel_rfl) (by kernel_rfl) (fun _ _ _ h => h) (Or.inl ⟨by rfl, ?hy29_67⟩) hHeld ?rest29_67
  case hy29_67 => (intro w _; first | (go_simp; done) | (go_simp; with_reducible rfl) | (with_reducible rfl))
  (try simp only [Act.put, List.setIfInBounds_toArray, List.set_cons_zero, List.set_cons_succ])
  refine wpAnyH_take (i := 30) (oi := { dst := some 37, op := _, type := _, pos := _, after := _, guard := _ }) (v := ?v30_68) rfl (by kernel_rfl) (by kernel_rfl) (by kernel_rfl) (fun _ _ _ h => h) (Or.inl ⟨by rfl, ?hy30_68⟩) hHeld ?rest30_68
  case hy30_68 => (intro w _; first | (go_simp; done) | (go_simp; with_reducible rfl) | (with_reducible rfl))
  (try simp only [Act.put, List.setIfInBounds_toArray, List.set_cons_zero, List.set_cons_succ])
  refine wpAnyH_take (i := 31) (oi := { dst := some 38, op := _, type := _, pos := _, after := _, guard := _ }) (v := ?v31_69) rfl (by kernel_rfl) (by kernel_rfl) (by kernel_rfl) (fun _ _ _ h => h) (Or.inl ⟨by rfl, ?hy31_69⟩) hHeld ?rest31_69
  case hy31_69 => (intro w _; first | (go_simp; done) | (go_simp; with_reducible rfl) | (with_reducible rfl))
  (try simp only [Act.put, List.setIfInBounds_toArray, List.set_cons_zero, List.set_cons_succ])
  refine wpAnyH_take (i := 32) (oi := { dst := some 39, op := _, type := _, pos := _, after := _, guard := _ }) (v := undef) rfl (by kernel_rfl) (by kernel_rfl) (by kernel_rfl) (fun _ _ _ h => h) (Or.inr ⟨by rfl, rfl⟩) hHeld ?rest32_70
  (try simp only [Act.put, List.setIfInBounds_toArray, List.set_cons_zero, List.set_cons_succ])
  refine wpAnyH_take (i := 33) (oi := { dst := some 40, op := _, type := _, pos := _, after := _, guard := _ }) (v := undef) rfl (by kernel_rfl) (by kernel_rfl) (by kernel_rfl) (fun _ _ _ h => h) (Or.inr ⟨by rfl, rfl⟩) hHeld ?rest33_71
  (try simp only [Act.put, List.setIfInBounds_toArray, List.set_cons_zero, List.set_cons_succ])
  refine wpAnyH_take (i := 34) (oi := { dst := some 41, op := _, type := _, pos := _, after := _, guard := _ }) (v := undef) rfl (by kernel_rfl) (by kernel_rfl) (by kernel_rfl) (fun _ _ _ h => h) (Or.inr ⟨by rfl, rfl⟩) hHeld ?rest34_72
  (try simp only [Act.put, List.setIfInBounds_toArray, List.set_cons_zero, List.set_cons_succ])
  refine wpAnyH_take (i := 35) (oi := { dst := some 42, op := _, type := _, pos := _, after := _, guard := _ }) (v := undef) rfl (by kernel_rfl) (by kernel_rfl) (by kernel_rfl) (fun _ _ _ h => h) (Or.inr ⟨by rfl, rfl⟩) hHeld ?rest35_73
  (try simp only [Act.put, List.setIfInBounds_toArray, List.set_cons_zero, List.set_cons_succ])
  refine wpAnyH_take (i := 36) (oi := { dst := some 43, op := _, type := _, pos := _, after := _, guard := _ }) (v := undef) rfl (by kernel_rfl) (by kernel_rfl) (by kernel_rfl) (fun _ _ _ h => h) (Or.inr ⟨by rfl, rfl⟩) hHeld ?rest36_74
  (try simp only [Act.put, List.setIfInBounds_toArray, List.set_cons_zero, List.set_cons_succ])
  refine wpAnyH_take (i := 37) (oi := { dst := some 44, op := _, type := _, pos := _, after := _, guard := _ }) (v := ?v37_75) rfl (by kernel_rfl) (by kernel_rfl) (by kernel_rfl) (fun _ _ _ h => h) (Or.inl ⟨by rfl, ?hy37_75⟩) hHeld ?rest37_75
  case hy37_75 => (intro w _; first | (go_simp; done) | (go_simp; with_reducible rfl) | (with_reducible rfl))
  (try simp only [Act.put, List.setIfInBounds_toArray, List.set_cons_zero, List.set_cons_succ])
  refine wpAnyH_done (by kernel_rfl) ?_ _
  refine NoPanic.normal ?_
  rotate_left 1
  exact AllReadyH.nil
  exact AllReadyH.nil
  have u9 : Below w1'.heap.size w1' wa := (Below.refl _ _).drew.trans (ul.trans (ua.mono ul.size))
  clear ul ua A9 M9 hMd
  clear l_a e_a_0 e_a_1 e_a_2 e_a_3 e_a_4 e_a_5 e_a_6 e_a_7 e_a_8 e_a_9 e_a_10 l_m e_m_0 e_m_1 e_m_2
  replace B_a := B_a.below u9
  replace B_m := B_m.below u9
  replace B_r := B_r.below u9
  replace B_b := B_b.below u9
  have S_wa := u9.size
  have V_wa : Below w.heap.size w wa := V_w1'.trans (u9.mono V_w1'.size)
  clear V_w1'
  clear u9
  have l_b := B_b.ldF (n := 11) rfl
  have e_b_0 := B_b.a11_0
  have f_b_0 := B_b.frozen 0
  have e_b_1 := B_b.a11_1
  have f_b_1 := B_b.frozen 1
  have e_b_2 := B_b.a11_2
  have f_b_2 := B_b.frozen 2
  have e_b_3 := B_b.a11_3
  have f_b_3 := B_b.frozen 3
  have e_b_4 := B_b.a11_4
  have f_b_4 := B_b.frozen 4
  have e_b_5 := B_b.a11_5
  have f_b_5 := B_b.frozen 5
  have e_b_6 := B_b.a11_6
  have f_b_6 := B_b.frozen 6
  have e_b_7 := B_b.a11_7
  have f_b_7 := B_b.frozen 7
  have e_b_8 := B_b.a11_8
  have f_b_8 := B_b.frozen 8
  have e_b_9 := B_b.a11_9
  have f_b_9 := B_b.frozen 9
  have e_b_10 := B_b.a11_10
  have f_b_10 := B_b.frozen 10
  have l_r := B_r.ldF (n := 11) rfl
  have e_r_0 := B_r.a11_0
  have f_r_0 := B_r.frozen 0
  have e_r_1 := B_r.a11_1
  have f_r_1 := B_r.frozen 1
  have e_r_2 := B_r.a11_2
  have f_r_2 := B_r.frozen 2
  have e_r_3 := B_r.a11_3
  have f_r_3 := B_r.frozen 3
  have e_r_4 := B_r.a11_4
  have f_r_4 := B_r.frozen 4
  have e_r_5 := B_r.a11_5
  have f_r_5 := B_r.frozen 5
  have e_r_6 := B_r.a11_6
  have f_r_6 := B_r.frozen 6
  have e_r_7 := B_r.a11_7
  have f_r_7 := B_r.frozen 7
  have e_r_8 := B_r.a11_8
  have f_r_8 := B_r.frozen 8
  have e_r_9 := B_r.a11_9
  have f_r_9 := B_r.frozen 9
  have e_r_10 := B_r.a11_10
  have f_r_10 := B_r.frozen 10
  go_wp2
  clear l_b e_b_0 f_b_0 e_b_1 f_b_1 e_b_2 f_b_2 e_b_3 f_b_3 e_b_4 f_b_4 e_b_5 f_b_5 e_b_6 f_b_6 e_b_7 f_b_7 e_b_8 f_b_8 e_b_9 f_b_9 e_b_10 f_b_10 l_r e_r_0 f_r_0 e_r_1 f_r_1 e_r_2 f_r_2 e_r_3 f_r_3 e_r_4 f_r_4 e_r_5 f_r_5 e_r_6 f_r_6 e_r_7 f_r_7 e_r_8 f_r_8 e_r_9 f_r_9 e_r_10 f_r_10
  have g_1 : Only [w.heap.size + 3] wa (wa.setCell ⟨w.heap.size + 3, 9, none⟩ (.int .i64 2)) := (Only.refl _ _).setCell _ _ (by simp)
  replace B_b := B_b.set_ 9 (.int .i64 2)
  generalize wa.setCell ⟨w.heap.size + 3, 9, none⟩ (.int .i64 2) = w2_1' at *
  have G := g_1
  clear g_1
  simp only [List.setIfInBounds_toArray, List.set_cons_zero, List.set_cons_succ] at B_b
  have V_w2'_0 := (V_wa).trans (G.below (V_wa).size (fun q hq => by have := (V_wa).size; simp at hq; omega))
  replace B_a := B_a.only G (by first | (simp; done) | (simp; omega))
  replace B_m := B_m.only G (by first | (simp; done) | (simp; omega))
  replace B_r := B_r.only G (by first | (simp; done) | (simp; omega))
  have sG0 := G.size
  clear G
  clear V_wa
  refine Exists.elim (B_r.row11 (.int .i64 a.P) (.int .i64 a.party) (.int .i64 a.input) (.int .i64 a.mask) (.int .i64 a.delta) (.slice x.sa x.sn x.sc) (.slice x.ka x.kn x.kc) (.int .i64 a.step) (.slice x.ha x.hn x.hc) (.int .i64 2) (.int .i64 a.out)) (fun w2' q => ?_)
  rw [q.1]; replace B_r := q.2.1; have G := q.2.2; clear q
  have V_w2' := (V_w2'_0).trans (G.below (V_w2'_0).size (fun q hq => by have := (V_w2'_0).size; simp at hq; omega))
  replace B_a := B_a.only G (by first | (simp; done) | (simp; omega))
  replace B_m := B_m.only G (by first | (simp; done) | (simp; omega))
  replace B_b := B_b.only G (by first | (simp; done) | (simp; omega))
  have sG1 := G.size
  clear G
  clear V_w2'_0
  have S_w2' : wa.heap.size + 0 ≤ w2'.heap.size := by omega
  clear sG0 sG1
  have l_r := B_r.ldF (n := 11) rfl
  have e_r_0 := B_r.a11_0
  have e_r_1 := B_r.a11_1
  have e_r_2 := B_r.a11_2
  have e_r_3 := B_r.a11_3
  have e_r_4 := B_r.a11_4
  have e_r_5 := B_r.a11_5
  have e_r_6 := B_r.a11_6
  have e_r_7 := B_r.a11_7
  have e_r_8 := B_r.a11_8
  have e_r_9 := B_r.a11_9
  have e_r_10 := B_r.a11_10
  exact bodyPost_ret (v := .agg #[.int .i64 a.P, .int .i64 a.party, .int .i64 a.input, .int .i64 a.mask, .int .i64 a.delta, .slice x.sa x.sn x.sc, .slice x.ka x.kn x.kc, .int .i64 a.step, .slice x.ha x.hn x.hc, .int .i64 2, .int .i64 a.out]) (by simp [results, Tryd.results91, go_sem, e_r_0, e_r_1, e_r_2, e_r_3, e_r_4, e_r_5, e_r_6, e_r_7, e_r_8, e_r_9, e_r_10]) rfl ⟨x, rfl, LB.out.below V_w2', V_w2'⟩
set_option maxHeartbeats 16000000 in
set_option maxRecDepth 100000 in
theorem ptTake_holds (a : Pl) (x : PlX) (fr st : Int) (b : Option Addr) (n c : Nat) (body : List Int) (w : World) (F : List Nat) (_hF : ∀ q ∈ F, q < w.heap.size) (hPB : PlB F w x a.shares a.keys a.heard) (hM : Ints w b n c body) (hN : PlN a) (hs : a.step ≤ 2) (hb1 : fr = 1 - a.party) (hb2 : st = a.step) (hb3 : n = blen a.step.toNat) (hb4 : allB body 0 (a.P - 1) = true) (hb5 : accT a body = false) :
    Calls Tryd.prog 91 #[.agg #[.int .i64 a.P, .int .i64 a.party, .int .i64 a.input, .int .i64 a.mask, .int .i64 a.delta, .slice x.sa x.sn x.sc, .slice x.ka x.kn x.kc, .int .i64 a.step, .slice x.ha x.hn x.hc, .int .i64 a.status, .int .i64 a.out], .agg #[.int .i64 fr, .int .i64 st, .slice b n c]] w fun e w' => ∃ y, e = .returned (.agg #[.int .i64 a.P, .int .i64 a.party, .int .i64 a.input, .int .i64 a.mask, .int .i64 a.delta, .slice y.sa y.sn y.sc, .slice y.ka y.kn y.kc, .int .i64 a.step, .slice y.ha y.hn y.hc, .int .i64 2, .int .i64 a.out]) ∧ PlB F w' y a.shares a.keys (a.heard) ∧ Below w.heap.size w w' := by
  have h := hPB.rd
  have LB := Lib.hid hPB
  clear hPB
  have hp1 := hN.p1
  have hp2 := hN.p2
  have hpa := hN.pa
  have hst := hN.stp
  have hnl := hM.le
  have t1 : IntKind.i64.wrap (1 - a.party) = 1 - a.party := IntWalk.i64_in _ (by omega)
  have t2 : IntKind.i64.wrap (a.P - 1) = a.P - 1 := IntWalk.i64_in _ (by omega)
  have CL : ∀ (W : World), Calls Tryd.prog 88 #[.int .i64 a.step] W fun e w' => e = .returned (.int .i64 (blen a.step.toNat)) ∧ Below W.heap.size W w' := fun W => by
    have := ptLength_any a.step.toNat W (by omega)
    rwa [Int.toNat_of_nonneg hst.1] at this
  have C4 := fun (W : World) (h2 : Ints W b n c body) => ((l1All_any b n c body 0 (a.P - 1) W h2).mono (fun _ _ ⟨he, hq⟩ => ⟨he, below_of_quiet hq⟩) : Calls Tryd.prog 100 #[.slice b n c, .int .i64 0, .int .i64 (a.P - 1)] W fun e w' => e = .returned (.bool (allB body 0 (a.P - 1))) ∧ Below W.heap.size W w')
  have C5 := fun (hl : n = blen a.step.toNat) (hr : ∀ v ∈ body, 0 ≤ v ∧ v ≤ a.P - 1) (W : World) (h2 : PlR W x a.shares a.keys a.heard) (h3 : Ints W b n c body) => ptHolds_any a x b n c body W h2 h3 hN hs hl hr
  subst hb1
  have d1 : (((1 - a.party) != 1 - a.party) : Bool) = false := by simp
  subst hb2
  have d2 : ((a.step != a.step) : Bool) = false := by simp
  generalize hbn : blen a.step.toNat = B at *
  have d3 : (((n : Int) != (B : Int)) : Bool) = false := by simp; omega
  rw [hb4] at C4
  replace C5 := C5 hb3 ((allB_iff _ _ _).1 hb4)
  rw [hb5] at C5
  have LH := Lib.hid h
  have LM := Lib.hid hM
  replace CL := Lib.hid CL
  replace C4 := Lib.hid C4
  replace C5 := Lib.hid C5
  clear h hM hN hs
  clear hb3 hbn
  clear hb4
  clear hb5
  go_enter Tryd.func91, Tryd.ntmps91
  go_upto_region 2 with fail
  refine Exists.elim (Blk.new_ w (b := w.heap.size) rfl 31 #[.int .i64 a.P, .int .i64 a.party, .int .i64 a.input, .int .i64 a.mask, .int .i64 a.delta, .slice x.sa x.sn x.sc, .slice x.ka x.kn x.kc, .int .i64 a.step, .slice x.ha x.hn x.hc, .int .i64 a.status, .int .i64 a.out]) (fun w1_a0' q => ?_)
  rw [q.1]; have B_a := q.2.1; have s_w1_a0' := q.2.2.1; have u_w1_a0' := q.2.2.2; clear q
  refine Exists.elim (Blk.new_ w1_a0' (b := w.heap.size + 1) s_w1_a0' 44 #[.int .i64 (1 - a.party), .int .i64 a.step, .slice b n c]) (fun w1_a1' q => ?_)
  rw [q.1]; have B_m := q.2.1; have s_w1_a1' := q.2.2.1; have u_w1_a1' := q.2.2.2; clear q
  refine Exists.elim (Blk.new_ w1_a1' (b := w.heap.size + 2) s_w1_a1' 31 #[.int .i64 0, .int .i64 0, .int .i64 0, .int .i64 0, .int .i64 0, .slice none 0 0, .slice none 0 0, .int .i64 0, .slice none 0 0, .int .i64 0, .int .i64 0]) (fun w1_a2' q => ?_)
  rw [q.1]; have B_r := q.2.1; have s_w1_a2' := q.2.2.1; have u_w1_a2' := q.2.2.2; clear q
  refine Exists.elim (Blk.new_ w1_a2' (b := w.heap.size + 3) s_w1_a2' 31 #[.int .i64 a.P, .int .i64 a.party, .int .i64 a.input, .int .i64 a.mask, .int .i64 a.delta, .slice x.sa x.sn x.sc, .slice x.ka x.kn x.kc, .int .i64 a.step, .slice x.ha x.hn x.hc, .int .i64 a.status, .int .i64 a.out]) (fun w1' q => ?_)
  rw [q.1]; have B_b := q.2.1; have s_w1' := q.2.2.1; have u_w1' := q.2.2.2; clear q
  replace B_a := (((B_a.below u_w1_a1').below u_w1_a2').below u_w1')
  replace B_m := ((B_m.below u_w1_a2').below u_w1')
  replace B_r := (B_r.below u_w1')
  have U := (u_w1_a0'.trans ((u_w1_a1'.trans ((u_w1_a2'.trans (u_w1'.mono u_w1_a2'.size)).mono u_w1_a1'.size)).mono u_w1_a0'.size))
  have S_w1' : w.heap.size + 4 ≤ w1'.heap.size := Nat.le_of_eq s_w1'.symm
  have V_w1' := (Below.refl w.heap.size w).trans (U.mono ((Below.refl w.heap.size w)).size)
  clear u_w1_a0' u_w1_a1' u_w1_a2' u_w1' s_w1_a0' s_w1_a1' s_w1_a2' s_w1' U
  try rw [show w.heap.size + 1 + 1 + 1 = w.heap.size + 3 from rfl]
  try rw [show w.heap.size + 1 + 1 = w.heap.size + 2 from rfl]
  have l_a := B_a.ldF (n := 11) rfl
  have e_a_0 := B_a.a11_0
  have e_a_1 := B_a.a11_1
  have e_a_2 := B_a.a11_2
  have e_a_3 := B_a.a11_3
  have e_a_4 := B_a.a11_4
  have e_a_5 := B_a.a11_5
  have e_a_6 := B_a.a11_6
  have e_a_7 := B_a.a11_7
  have e_a_8 := B_a.a11_8
  have e_a_9 := B_a.a11_9
  have e_a_10 := B_a.a11_10
  have l_m := B_m.ldF (n := 3) rfl
  have e_m_0 := B_m.a3_0
  have e_m_1 := B_m.a3_1
  have e_m_2 := B_m.a3_2
  have hRd := (LH.out.below V_w1').drew
  have hMd := (LM.out.below V_w1').below (Below.refl _ _).drew
  go_wp2
  go_region_held3 (fun W => W.cell? ⟨w.heap.size, 0, none⟩ = some (.int .i64 a.P) ∧ W.cell? ⟨w.heap.size, 1, none⟩ = some (.int .i64 a.party) ∧ W.cell? ⟨w.heap.size, 2, none⟩ = some (.int .i64 a.input) ∧ W.cell? ⟨w.heap.size, 3, none⟩ = some (.int .i64 a.mask) ∧ W.cell? ⟨w.heap.size, 4, none⟩ = some (.int .i64 a.delta) ∧ W.cell? ⟨w.heap.size, 5, none⟩ = some (.slice x.sa x.sn x.sc) ∧ W.cell? ⟨w.heap.size, 6, none⟩ = some (.slice x.ka x.kn x.kc) ∧ W.cell? ⟨w.heap.size, 7, none⟩ = some (.int .i64 a.step) ∧ W.cell? ⟨w.heap.size, 8, none⟩ = some (.slice x.ha x.hn x.hc) ∧ W.cell? ⟨w.heap.size, 9, none⟩ = some (.int .i64 a.status) ∧ W.cell? ⟨w.heap.size, 10, none⟩ = some (.int .i64 a.out) ∧ W.cell? ⟨w.heap.size + 1, 0, none⟩ = some (.int .i64 (1 - a.party)) ∧ W.cell? ⟨w.heap.size + 1, 1, none⟩ = some (.int .i64 a.step) ∧ W.cell? ⟨w.heap.size + 1, 2, none⟩ = some (.slice b n c))
    (first | exact ⟨keepC uh (keepC ua (keepC ul (e_a_0))), keepC uh (keepC ua (keepC ul (e_a_1))), keepC uh (keepC ua (keepC ul (e_a_2))), keepC uh (keepC ua (keepC ul (e_a_3))), keepC uh (keepC ua (keepC ul (e_a_4))), keepC uh (keepC ua (keepC ul (e_a_5))), keepC uh (keepC ua (keepC ul (e_a_6))), keepC uh (keepC ua (keepC ul (e_a_7))), keepC uh (keepC ua (keepC ul (e_a_8))), keepC uh (keepC ua (keepC ul (e_a_9))), keepC uh (keepC ua (keepC ul (e_a_10))), keepC uh (keepC ua (keepC ul (e_m_0))), keepC uh (keepC ua (keepC ul (e_m_1))), keepC uh (keepC ua (keepC ul (e_m_2)))⟩ | exact ⟨keepC ua (keepC ul (e_a_0)), keepC ua (keepC ul (e_a_1)), keepC ua (keepC ul (e_a_2)), keepC ua (keepC ul (e_a_3)), keepC ua (keepC ul (e_a_4)), keepC ua (keepC ul (e_a_5)), keepC ua (keepC ul (e_a_6)), keepC ua (keepC ul (e_a_7)), keepC ua (keepC ul (e_a_8)), keepC ua (keepC ul (e_a_9)), keepC ua (keepC ul (e_a_10)), keepC ua (keepC ul (e_m_0)), keepC ua (keepC ul (e_m_1)), keepC ua (keepC ul (e_m_2))⟩ | exact ⟨keepC ul (e_a_0), keepC ul (e_a_1), keepC ul (e_a_2), keepC ul (e_a_3), keepC ul (e_a_4), keepC ul (e_a_5), keepC ul (e_a_6), keepC ul (e_a_7), keepC ul (e_a_8), keepC ul (e_a_9), keepC ul (e_a_10), keepC ul (e_m_0), keepC ul (e_m_1), keepC ul (e_m_2)⟩ | exact ⟨e_a_0, e_a_1, e_a_2, e_a_3, e_a_4, e_a_5, e_a_6, e_a_7, e_a_8, e_a_9, e_a_10, e_m_0, e_m_1, e_m_2⟩ | go_keep)
    (first | (go_at_call 88; refine (CL.out _).mono ?_; rintro e wl ⟨rfl, ul⟩) | (go_at_call 100; refine (C4.out _ (hMd.below ul)).mono ?_; rintro e wa ⟨rfl, ua⟩) | (go_at_call 121; refine (C5.out _ ((hRd.below ul).below ua) ((hMd.below ul).below ua)).mono ?_; rintro e wh ⟨rfl, uh⟩))
  have u9 : Below w1'.heap.size w1' wh := (Below.refl _ _).drew.trans (ul.trans ((ua.trans (uh.mono ua.size)).mono ul.size))
  clear hRd hMd ul ua uh
  clear l_a e_a_0 e_a_1 e_a_2 e_a_3 e_a_4 e_a_5 e_a_6 e_a_7 e_a_8 e_a_9 e_a_10 l_m e_m_0 e_m_1 e_m_2
  replace B_a := B_a.below u9
  replace B_m := B_m.below u9
  replace B_r := B_r.below u9
  replace B_b := B_b.below u9
  have S_wh := u9.size
  have V_wh : Below w.heap.size w wh := V_w1'.trans (u9.mono V_w1'.size)
  clear V_w1'
  clear u9
  have l_b := B_b.ldF (n := 11) rfl
  have e_b_0 := B_b.a11_0
  have f_b_0 := B_b.frozen 0
  have e_b_1 := B_b.a11_1
  have f_b_1 := B_b.frozen 1
  have e_b_2 := B_b.a11_2
  have f_b_2 := B_b.frozen 2
  have e_b_3 := B_b.a11_3
  have f_b_3 := B_b.frozen 3
  have e_b_4 := B_b.a11_4
  have f_b_4 := B_b.frozen 4
  have e_b_5 := B_b.a11_5
  have f_b_5 := B_b.frozen 5
  have e_b_6 := B_b.a11_6
  have f_b_6 := B_b.frozen 6
  have e_b_7 := B_b.a11_7
  have f_b_7 := B_b.frozen 7
  have e_b_8 := B_b.a11_8
  have f_b_8 := B_b.frozen 8
  have e_b_9 := B_b.a11_9
  have f_b_9 := B_b.frozen 9
  have e_b_10 := B_b.a11_10
  have f_b_10 := B_b.frozen 10
  have l_r := B_r.ldF (n := 11) rfl
  have e_r_0 := B_r.a11_0
  have f_r_0 := B_r.frozen 0
  have e_r_1 := B_r.a11_1
  have f_r_1 := B_r.frozen 1
  have e_r_2 := B_r.a11_2
  have f_r_2 := B_r.frozen 2
  have e_r_3 := B_r.a11_3
  have f_r_3 := B_r.frozen 3
  have e_r_4 := B_r.a11_4
  have f_r_4 := B_r.frozen 4
  have e_r_5 := B_r.a11_5
  have f_r_5 := B_r.frozen 5
  have e_r_6 := B_r.a11_6
  have f_r_6 := B_r.frozen 6
  have e_r_7 := B_r.a11_7
  have f_r_7 := B_r.frozen 7
  have e_r_8 := B_r.a11_8
  have f_r_8 := B_r.frozen 8
  have e_r_9 := B_r.a11_9
  have f_r_9 := B_r.frozen 9
  have e_r_10 := B_r.a11_10
  have f_r_10 := B_r.frozen 10
  go_wp2
  clear l_b e_b_0 f_b_0 e_b_1 f_b_1 e_b_2 f_b_2 e_b_3 f_b_3 e_b_4 f_b_4 e_b_5 f_b_5 e_b_6 f_b_6 e_b_7 f_b_7 e_b_8 f_b_8 e_b_9 f_b_9 e_b_10 f_b_10 l_r e_r_0 f_r_0 e_r_1 f_r_1 e_r_2 f_r_2 e_r_3 f_r_3 e_r_4 f_r_4 e_r_5 f_r_5 e_r_6 f_r_6 e_r_7 f_r_7 e_r_8 f_r_8 e_r_9 f_r_9 e_r_10 f_r_10
  have g_1 : Only [w.heap.size + 3] wh (wh.setCell ⟨w.heap.size + 3, 9, none⟩ (.int .i64 2)) := (Only.refl _ _).setCell _ _ (by simp)
  replace B_b := B_b.set_ 9 (.int .i64 2)
  generalize wh.setCell ⟨w.heap.size + 3, 9, none⟩ (.int .i64 2) = w2_1' at *
  have G := g_1
  clear g_1
  simp only [List.setIfInBounds_toArray, List.set_cons_zero, List.set_cons_succ] at B_b
  have V_w2'_0 := (V_wh).trans (G.below (V_wh).size (fun q hq => by have := (V_wh).size; simp at hq; omega))
  replace B_a := B_a.only G (by first | (simp; done) | (simp; omega))
  replace B_m := B_m.only G (by first | (simp; done) | (simp; omega))
  replace B_r := B_r.only G (by first | (simp; done) | (simp; omega))
  have sG0 := G.size
  clear G
  clear V_wh
  refine Exists.elim (B_r.row11 (.int .i64 a.P) (.int .i64 a.party) (.int .i64 a.input) (.int .i64 a.mask) (.int .i64 a.delta) (.slice x.sa x.sn x.sc) (.slice x.ka x.kn x.kc) (.int .i64 a.step) (.slice x.ha x.hn x.hc) (.int .i64 2) (.int .i64 a.out)) (fun w2' q => ?_)
  rw [q.1]; replace B_r := q.2.1; have G := q.2.2; clear q
  have V_w2' := (V_w2'_0).trans (G.below (V_w2'_0).size (fun q hq => by have := (V_w2'_0).size; simp at hq; omega))
  replace B_a := B_a.only G (by first | (simp; done) | (simp; omega))
  replace B_m := B_m.only G (by first | (simp; done) | (simp; omega))
  replace B_b := B_b.only G (by first | (simp; done) | (simp; omega))
  have sG1 := G.size
  clear G
  clear V_w2'_0
  have S_w2' : wh.heap.size + 0 ≤ w2'.heap.size := by omega
  clear sG0 sG1
  have l_r := B_r.ldF (n := 11) rfl
  have e_r_0 := B_r.a11_0
  have e_r_1 := B_r.a11_1
  have e_r_2 := B_r.a11_2
  have e_r_3 := B_r.a11_3
  have e_r_4 := B_r.a11_4
  have e_r_5 := B_r.a11_5
  have e_r_6 := B_r.a11_6
  have e_r_7 := B_r.a11_7
  have e_r_8 := B_r.a11_8
  have e_r_9 := B_r.a11_9
  have e_r_10 := B_r.a11_10
  exact bodyPost_ret (v := .agg #[.int .i64 a.P, .int .i64 a.party, .int .i64 a.input, .int .i64 a.mask, .int .i64 a.delta, .slice x.sa x.sn x.sc, .slice x.ka x.kn x.kc, .int .i64 a.step, .slice x.ha x.hn x.hc, .int .i64 2, .int .i64 a.out]) (by simp [results, Tryd.results91, go_sem, e_r_0, e_r_1, e_r_2, e_r_3, e_r_4, e_r_5, e_r_6, e_r_7, e_r_8, e_r_9, e_r_10]) rfl ⟨x, rfl, LB.out.below V_w2', V_w2'⟩
end Go.Proofs.YtlmdckcohoddnaaDoor
