/- Lemmas and walks that the claim's proof rests on, part 12. -/
import Derived.Test.YtlmdckcohoddnaaDoorK10
import Derived.Test.YtlmdckcohoddnaaDoorK11
namespace Go.Proofs.YtlmdckcohoddnaaDoor
open Go.RowKit
theorem Only.cell {F : List Nat} {w w' : World} (ho : Only F w w') {p : Addr} (hlt : p.block < w.heap.size) (hn : p.block ∉ F) : w'.cell? p = w.cell? p := by
  unfold World.cell?
  rw [ho.block _ hlt hn]
def Off (F : List Nat) (a : Option Addr) (n : Nat) : Prop := 0 < n → ∀ x, a = some x → x.block ∉ F
theorem RowC.onlyOff {F : List Nat} {w w' : World} {a n c sz xs} (h : RowC w a n c sz xs) (ho : Only F w w') (hf : Off F a n) : RowC w' a n c sz xs := by
  obtain ⟨h1, h2, h3, h4, g, o, h5, h6⟩ := h
  refine ⟨h1, h2, h3, h4, g, o, h5, fun i u hu => ?_⟩
  have hn : 0 < n := by
    rcases Nat.eq_zero_or_pos n with rfl | h
    · have : xs = [] := List.eq_nil_of_length_eq_zero (by rw [h1, Nat.zero_mul])
      subst this; simp at hu
    · exact h
  have hc := h6 i u hu
  have hg : (⟨g, o, none⟩ : Addr).block ∉ F := hf hn _ (h5 hn)
  rw [ho.cell (World.block_lt_of_cell? w _ hc) hg]
  exact hc
theorem RowC.off {F : List Nat} {w : World} {a n c sz xs} (h : RowC w a n c sz xs) (hs : 0 < sz) (hF : ∀ q ∈ F, w.heap.size ≤ q) : Off F a n := fun hn x hx hq => by
  obtain ⟨h1, h2, h3, h4, g, o, h5, h6⟩ := h
  have hl : 0 < xs.length := by rw [h1]; exact Nat.mul_pos hn hs
  have hc := h6 0 xs[0] (by simp [hl])
  have := World.block_lt_of_cell? w _ hc
  rw [h5 hn] at hx
  cases hx
  have := hF _ hq
  simp only at *
  omega
theorem Ints.onlyOff {F : List Nat} {w w' : World} {a n c l} (h : Ints w a n c l) (ho : Only F w w') (hf : Off F a n) : Ints w' a n c l := Ints.of_rowC (h.rowC.onlyOff ho hf)
def PlB (F : List Nat) (w : World) (x : PlX) (s k : List Int) (h : List (List Int)) : Prop :=
  Flat 2 w x.sa x.sn x.sc s ∧ Ints w x.ka x.kn x.kc k ∧ ∃ rs, IntSS w x.ha x.hn x.hc rs ∧ datas' rs = h ∧ Off F x.sa x.sn ∧ Off F x.ka x.kn ∧ Off F x.ha x.hn ∧ ∀ r ∈ rs, Off F r.1 r.2.2.length
theorem PlB.rd {F w x s k h} (p : PlB F w x s k h) : PlR w x s k h := by
  obtain ⟨p1, p2, rs, p3, p4, _⟩ := p
  exact ⟨p1, p2, rs, p3, p4⟩
theorem PlB.only {F w w' x s k h} (p : PlB F w x s k h) (ho : Only F w w') : PlB F w' x s k h := by
  obtain ⟨p1, p2, rs, p3, p4, q1, q2, q3, q4⟩ := p
  exact ⟨RowC.onlyOff p1 ho q1, p2.onlyOff ho q2, rs, ⟨p3.row.onlyOff ho q3, fun r hr => (p3.inn r hr).onlyOff ho (q4 r hr)⟩, p4, q1, q2, q3, q4⟩
theorem PlB.below {F w w' x s k h} (p : PlB F w x s k h) (hb : Below w.heap.size w w') : PlB F w' x s k h := p.only (Only.of_below hb)
theorem PlB.of {F w x s k h} (p : PlR w x s k h) (hF : ∀ q ∈ F, w.heap.size ≤ q) : PlB F w x s k h := by
  obtain ⟨p1, p2, rs, p3, p4⟩ := p
  exact ⟨p1, p2, rs, p3, p4, RowC.off p1 (by omega) hF, RowC.off p2.rowC (by omega) hF, RowC.off p3.row (by omega) hF, fun r hr => RowC.off (p3.inn r hr).rowC (by omega) hF⟩
set_option maxHeartbeats 16000000 in
set_option maxRecDepth 100000 in
theorem ptTake_fr (a : Pl) (x : PlX) (fr st : Int) (b : Option Addr) (n c : Nat) (body : List Int) (w : World) (F : List Nat) (_hF : ∀ q ∈ F, q < w.heap.size) (hPB : PlB F w x a.shares a.keys a.heard) (hM : Ints w b n c body) (hN : PlN a) (hs : a.step ≤ 2) (hb1 : fr ≠ 1 - a.party) :
    Calls Tryd.prog 91 #[.agg #[.int .i64 a.P, .int .i64 a.party, .int .i64 a.input, .int .i64 a.mask, .int .i64 a.delta, .slice x.sa x.sn x.sc, .slice x.ka x.kn x.kc, .int .i64 a.step, .slice x.ha x.hn x.hc, .int .i64 a.status, .int .i64 a.out], .agg #[.int .i64 fr, .int .i64 st, .slice b n c]] w fun e w' => ∃ y, e = .returned (.agg #[.int .i64 a.P, .int .i64 a.party, .int .i64 a.input, .int .i64 a.mask, .int .i64 a.delta, .slice y.sa y.sn y.sc, .slice y.ka y.kn y.kc, .int .i64 a.step, .slice y.ha y.hn y.hc, .int .i64 2, .int .i64 a.out]) ∧ PlB F w' y a.shares a.keys (a.heard) ∧ Below w.heap.size w w' := by
  have h := hPB.rd
  have LB := Lib.hid hPB
  clear hPB
  have hp1 := hN.p1
  have hp2 := hN.p2
  have hpa := hN.pa
  have hst := hN.stp
  have hnl := hM.le
  have t1 : IntKind.i64.wrap (1 - a.party) = 1 - a.party := IntWalk.i64_in _ (by omega)
  have t2 : IntKind.i64.wrap (a.P - 1) = a.P - 1 := IntWalk.i64_in _ (by omega)
  have CL : ∀ (W : World), Calls Tryd.prog 88 #[.int .i64 a.step] W fun e w' => e = .returned (.int .i64 (blen a.step.toNat)) ∧ Below W.heap.size W w' := fun W => by
    have := ptLength_any a.step.toNat W (by omega)
    rwa [Int.toNat_of_nonneg hst.1] at this
  have C4 := fun (W : World) (h2 : Ints W b n c body) => ((l1All_any b n c body 0 (a.P - 1) W h2).mono (fun _ _ ⟨he, hq⟩ => ⟨he, below_of_quiet hq⟩) : Calls Tryd.prog 100 #[.slice b n c, .int .i64 0, .int .i64 (a.P - 1)] W fun e w' => e = .returned (.bool (allB body 0 (a.P - 1))) ∧ Below W.heap.size W w')
  have C5 := fun (hl : n = blen a.step.toNat) (hr : ∀ v ∈ body, 0 ≤ v ∧ v ≤ a.P - 1) (W : World) (h2 : PlR W x a.shares a.keys a.heard) (h3 : Ints W b n c body) => ptHolds_any a x b n c body W h2 h3 hN hs hl hr
  have d1 : ((fr != 1 - a.party) : Bool) = true := by simp; omega
  have LH := Lib.hid h
  have LM := Lib.hid hM
  replace CL := Lib.hid CL
  replace C4 := Lib.hid C4
  replace C5 := Lib.hid C5
  clear h hM hN hs
  clear hb1
  go_enter Tryd.func91, Tryd.ntmps91
  go_upto_region 2 with fail
  refine Exists.elim (Blk.new_ w (b := w.heap.size) rfl 31 #[.int .i64 a.P, .int .i64 a.party, .int .i64 a.input, .int .i64 a.mask, .int .i64 a.delta, .slice x.sa x.sn x.sc, .slice x.ka x.kn x.kc, .int .i64 a.step, .slice x.ha x.hn x.hc, .int .i64 a.status, .int .i64 a.out]) (fun w1_a0' q => ?_)
  rw [q.1]; have B_a := q.2.1; have s_w1_a0' := q.2.2.1; have u_w1_a0' := q.2.2.2; clear q
  refine Exists.elim (Blk.new_ w1_a0' (b := w.heap.size + 1) s_w1_a0' 44 #[.int .i64 fr, .int .i64 st, .slice b n c]) (fun w1_a1' q => ?_)
  rw [q.1]; have B_m := q.2.1; have s_w1_a1' := q.2.2.1; have u_w1_a1' := q.2.2.2; clear q
  refine Exists.elim (Blk.new_ w1_a1' (b := w.heap.size + 2) s_w1_a1' 31 #[.int .i64 0, .int .i64 0, .int .i64 0, .int .i64 0, .int .i64 0, .slice none 0 0, .slice none 0 0, .int .i64 0, .slice none 0 0, .int .i64 0, .int .i64 0]) (fun w1_a2' q => ?_)
  rw [q.1]; have B_r := q.2.1; have s_w1_a2' := q.2.2.1; have u_w1_a2' := q.2.2.2; clear q
  refine Exists.elim (Blk.new_ w1_a2' (b := w.heap.size + 3) s_w1_a2' 31 #[.int .i64 a.P, .int .i64 a.party, .int .i64 a.input, .int .i64 a.mask, .int .i64 a.delta, .slice x.sa x.sn x.sc, .slice x.ka x.kn x.kc, .int .i64 a.step, .slice x.ha x.hn x.hc, .int .i64 a.status, .int .i64 a.out]) (fun w1' q => ?_)
  rw [q.1]; have B_b := q.2.1; have s_w1' := q.2.2.1; have u_w1' := q.2.2.2; clear q
  replace B_a := (((B_a.below u_w1_a1').below u_w1_a2').below u_w1')
  replace B_m := ((B_m.below u_w1_a2').below u_w1')
  replace B_r := (B_r.below u_w1')
  have U := (u_w1_a0'.trans ((u_w1_a1'.trans ((u_w1_a2'.trans (u_w1'.mono u_w1_a2'.size)).mono u_w1_a1'.size)).mono u_w1_a0'.size))
  have S_w1' : w.heap.size + 4 ≤ w1'.heap.size := Nat.le_of_eq s_w1'.symm
  have V_w1' := (Below.refl w.heap.size w).trans (U.mono ((Below.refl w.heap.size w)).size)
  clear u_w1_a0' u_w1_a1' u_w1_a2' u_w1' s_w1_a0' s_w1_a1' s_w1_a2' s_w1' U
  try rw [show w.heap.size + 1 + 1 + 1 = w.heap.size + 3 from rfl]
  try rw [show w.heap.size + 1 + 1 = w.heap.size + 2 from rfl]
  have e_a_0 := B_a.a11_0
  have e_a_1 := B_a.a11_1
  have e_a_2 := B_a.a11_2
  have e_a_3 := B_a.a11_3
  have e_a_4 := B_a.a11_4
  have e_a_5 := B_a.a11_5
  have e_a_6 := B_a.a11_6
  have e_a_7 := B_a.a11_7
  have e_a_8 := B_a.a11_8
  have e_a_9 := B_a.a11_9
  have e_a_10 := B_a.a11_10
  have e_m_0 := B_m.a3_0
  have e_m_1 := B_m.a3_1
  have e_m_2 := B_m.a3_2
  go_wp2
  go_quiet (fail)
  clear e_a_0 e_a_1 e_a_2 e_a_3 e_a_4 e_a_5 e_a_6 e_a_7 e_a_8 e_a_9 e_a_10 e_m_0 e_m_1 e_m_2
  have u9 : Below w1'.heap.size w1' (w1'.drewN nq) := below_of_drewN _
  generalize hwq : w1'.drewN nq = wq at *
  clear hwq
  replace B_a := B_a.below u9
  replace B_m := B_m.below u9
  replace B_r := B_r.below u9
  replace B_b := B_b.below u9
  have S_wq := u9.size
  have V_wq : Below w.heap.size w wq := V_w1'.trans (u9.mono V_w1'.size)
  clear V_w1'
  clear u9
  have e_b := B_b.all11
  have f_b := B_b.frz11
  have e_r := B_r.all11
  have f_r := B_r.frz11
  go_wp2
  clear e_b f_b e_r f_r
  have g_1 : Only [w.heap.size + 3] wq (wq.setCell ⟨w.heap.size + 3, 9, none⟩ (.int .i64 2)) := (Only.refl _ _).setCell _ _ (by simp)
  replace B_b := B_b.set_ 9 (.int .i64 2)
  generalize wq.setCell ⟨w.heap.size + 3, 9, none⟩ (.int .i64 2) = w2_1' at *
  have G := g_1
  clear g_1
  simp only [List.setIfInBounds_toArray, List.set_cons_zero, List.set_cons_succ] at B_b
  have V_w2'_0 := (V_wq).trans (G.below (V_wq).size (fun q hq => by have := (V_wq).size; simp at hq; omega))
  replace B_a := B_a.only G (by first | (simp; done) | (simp; omega))
  replace B_m := B_m.only G (by first | (simp; done) | (simp; omega))
  replace B_r := B_r.only G (by first | (simp; done) | (simp; omega))
  have sG0 := G.size
  clear G
  clear V_wq
  refine Exists.elim (B_r.row11 (.int .i64 a.P) (.int .i64 a.party) (.int .i64 a.input) (.int .i64 a.mask) (.int .i64 a.delta) (.slice x.sa x.sn x.sc) (.slice x.ka x.kn x.kc) (.int .i64 a.step) (.slice x.ha x.hn x.hc) (.int .i64 2) (.int .i64 a.out)) (fun w2' q => ?_)
  rw [q.1]; replace B_r := q.2.1; have G := q.2.2; clear q
  have V_w2' := (V_w2'_0).trans (G.below (V_w2'_0).size (fun q hq => by have := (V_w2'_0).size; simp at hq; omega))
  replace B_a := B_a.only G (by first | (simp; done) | (simp; omega))
  replace B_m := B_m.only G (by first | (simp; done) | (simp; omega))
  replace B_b := B_b.only G (by first | (simp; done) | (simp; omega))
  have sG1 := G.size
  clear G
  clear V_w2'_0
  have S_w2' : wq.heap.size + 0 ≤ w2'.heap.size := by omega
  clear sG0 sG1
  have e_r := B_r.all11
  exact bodyPost_ret (v := .agg #[.int .i64 a.P, .int .i64 a.party, .int .i64 a.input, .int .i64 a.mask, .int .i64 a.delta, .slice x.sa x.sn x.sc, .slice x.ka x.kn x.kc, .int .i64 a.step, .slice x.ha x.hn x.hc, .int .i64 2, .int .i64 a.out]) (by simp [results, Tryd.results91, go_sem, e_r]) rfl ⟨x, rfl, LB.out.below V_w2', V_w2'⟩
set_option maxHeartbeats 16000000 in
set_option maxRecDepth 100000 in
theorem ptTake_st (a : Pl) (x : PlX) (fr st : Int) (b : Option Addr) (n c : Nat) (body : List Int) (w : World) (F : List Nat) (_hF : ∀ q ∈ F, q < w.heap.size) (hPB : PlB F w x a.shares a.keys a.heard) (hM : Ints w b n c body) (hN : PlN a) (hs : a.step ≤ 2) (hb1 : fr = 1 - a.party) (hb2 : st ≠ a.step) :
    Calls Tryd.prog 91 #[.agg #[.int .i64 a.P, .int .i64 a.party, .int .i64 a.input, .int .i64 a.mask, .int .i64 a.delta, .slice x.sa x.sn x.sc, .slice x.ka x.kn x.kc, .int .i64 a.step, .slice x.ha x.hn x.hc, .int .i64 a.status, .int .i64 a.out], .agg #[.int .i64 fr, .int .i64 st, .slice b n c]] w fun e w' => ∃ y, e = .returned (.agg #[.int .i64 a.P, .int .i64 a.party, .int .i64 a.input, .int .i64 a.mask, .int .i64 a.delta, .slice y.sa y.sn y.sc, .slice y.ka y.kn y.kc, .int .i64 a.step, .slice y.ha y.hn y.hc, .int .i64 2, .int .i64 a.out]) ∧ PlB F w' y a.shares a.keys (a.heard) ∧ Below w.heap.size w w' := by
  have h := hPB.rd
  have LB := Lib.hid hPB
  clear hPB
  have hp1 := hN.p1
  have hp2 := hN.p2
  have hpa := hN.pa
  have hst := hN.stp
  have hnl := hM.le
  have t1 : IntKind.i64.wrap (1 - a.party) = 1 - a.party := IntWalk.i64_in _ (by omega)
  have t2 : IntKind.i64.wrap (a.P - 1) = a.P - 1 := IntWalk.i64_in _ (by omega)
  have CL : ∀ (W : World), Calls Tryd.prog 88 #[.int .i64 a.step] W fun e w' => e = .returned (.int .i64 (blen a.step.toNat)) ∧ Below W.heap.size W w' := fun W => by
    have := ptLength_any a.step.toNat W (by omega)
    rwa [Int.toNat_of_nonneg hst.1] at this
  have C4 := fun (W : World) (h2 : Ints W b n c body) => ((l1All_any b n c body 0 (a.P - 1) W h2).mono (fun _ _ ⟨he, hq⟩ => ⟨he, below_of_quiet hq⟩) : Calls Tryd.prog 100 #[.slice b n c, .int .i64 0, .int .i64 (a.P - 1)] W fun e w' => e = .returned (.bool (allB body 0 (a.P - 1))) ∧ Below W.heap.size W w')
  have C5 := fun (hl : n = blen a.step.toNat) (hr : ∀ v ∈ body, 0 ≤ v ∧ v ≤ a.P - 1) (W : World) (h2 : PlR W x a.shares a.keys a.heard) (h3 : Ints W b n c body) => ptHolds_any a x b n c body W h2 h3 hN hs hl hr
  subst hb1
  have d1 : (((1 - a.party) != 1 - a.party) : Bool) = false := by simp
  have d2 : ((st != a.step) : Bool) = true := by simp; omega
  have LH := Lib.hid h
  have LM := Lib.hid hM
  replace CL := Lib.hid CL
  replace C4 := Lib.hid C4
  replace C5 := Lib.hid C5
  clear h hM hN hs
  clear hb2
  go_enter Tryd.func91, Tryd.ntmps91
  go_upto_region 2 with fail
  refine Exists.elim (Blk.new_ w (b := w.heap.size) rfl 31 #[.int .i64 a.P, .int .i64 a.party, .int .i64 a.input, .int .i64 a.mask, .int .i64 a.delta, .slice x.sa x.sn x.sc, .slice x.ka x.kn x.kc, .int .i64 a.step, .slice x.ha x.hn x.hc, .int .i64 a.status, .int .i64 a.out]) (fun w1_a0' q => ?_)
  rw [q.1]; have B_a := q.2.1; have s_w1_a0' := q.2.2.1; have u_w1_a0' := q.2.2.2; clear q
  refine Exists.elim (Blk.new_ w1_a0' (b := w.heap.size + 1) s_w1_a0' 44 #[.int .i64 (1 - a.party), .int .i64 st, .slice b n c]) (fun w1_a1' q => ?_)
  rw [q.1]; have B_m := q.2.1; have s_w1_a1' := q.2.2.1; have u_w1_a1' := q.2.2.2; clear q
  refine Exists.elim (Blk.new_ w1_a1' (b := w.heap.size + 2) s_w1_a1' 31 #[.int .i64 0, .int .i64 0, .int .i64 0, .int .i64 0, .int .i64 0, .slice none 0 0, .slice none 0 0, .int .i64 0, .slice none 0 0, .int .i64 0, .int .i64 0]) (fun w1_a2' q => ?_)
  rw [q.1]; have B_r := q.2.1; have s_w1_a2' := q.2.2.1; have u_w1_a2' := q.2.2.2; clear q
  refine Exists.elim (Blk.new_ w1_a2' (b := w.heap.size + 3) s_w1_a2' 31 #[.int .i64 a.P, .int .i64 a.party, .int .i64 a.input, .int .i64 a.mask, .int .i64 a.delta, .slice x.sa x.sn x.sc, .slice x.ka x.kn x.kc, .int .i64 a.step, .slice x.ha x.hn x.hc, .int .i64 a.status, .int .i64 a.out]) (fun w1' q => ?_)
  rw [q.1]; have B_b := q.2.1; have s_w1' := q.2.2.1; have u_w1' := q.2.2.2; clear q
  replace B_a := (((B_a.below u_w1_a1').below u_w1_a2').below u_w1')
  replace B_m := ((B_m.below u_w1_a2').below u_w1')
  replace B_r := (B_r.below u_w1')
  have U := (u_w1_a0'.trans ((u_w1_a1'.trans ((u_w1_a2'.trans (u_w1'.mono u_w1_a2'.size)).mono u_w1_a1'.size)).mono u_w1_a0'.size))
  have S_w1' : w.heap.size + 4 ≤ w1'.heap.size := Nat.le_of_eq s_w1'.symm
  have V_w1' := (Below.refl w.heap.size w).trans (U.mono ((Below.refl w.heap.size w)).size)
  clear u_w1_a0' u_w1_a1' u_w1_a2' u_w1' s_w1_a0' s_w1_a1' s_w1_a2' s_w1' U
  try rw [show w.heap.size + 1 + 1 + 1 = w.heap.size + 3 from rfl]
  try rw [show w.heap.size + 1 + 1 = w.heap.size + 2 from rfl]
  have e_a_0 := B_a.a11_0
  have e_a_1 := B_a.a11_1
  have e_a_2 := B_a.a11_2
  have e_a_3 := B_a.a11_3
  have e_a_4 := B_a.a11_4
  have e_a_5 := B_a.a11_5
  have e_a_6 := B_a.a11_6
  have e_a_7 := B_a.a11_7
  have e_a_8 := B_a.a11_8
  have e_a_9 := B_a.a11_9
  have e_a_10 := B_a.a11_10
  have e_m_0 := B_m.a3_0
  have e_m_1 := B_m.a3_1
  have e_m_2 := B_m.a3_2
  go_wp2
  go_quiet (fail)
  clear e_a_0 e_a_1 e_a_2 e_a_3 e_a_4 e_a_5 e_a_6 e_a_7 e_a_8 e_a_9 e_a_10 e_m_0 e_m_1 e_m_2
  have u9 : Below w1'.heap.size w1' (w1'.drewN nq) := below_of_drewN _
  generalize hwq : w1'.drewN nq = wq at *
  clear hwq
  replace B_a := B_a.below u9
  replace B_m := B_m.below u9
  replace B_r := B_r.below u9
  replace B_b := B_b.below u9
  have S_wq := u9.size
  have V_wq : Below w.heap.size w wq := V_w1'.trans (u9.mono V_w1'.size)
  clear V_w1'
  clear u9
  have e_b := B_b.all11
  have f_b := B_b.frz11
  have e_r := B_r.all11
  have f_r := B_r.frz11
  go_wp2
  clear e_b f_b e_r f_r
  have g_1 : Only [w.heap.size + 3] wq (wq.setCell ⟨w.heap.size + 3, 9, none⟩ (.int .i64 2)) := (Only.refl _ _).setCell _ _ (by simp)
  replace B_b := B_b.set_ 9 (.int .i64 2)
  generalize wq.setCell ⟨w.heap.size + 3, 9, none⟩ (.int .i64 2) = w2_1' at *
  have G := g_1
  clear g_1
  simp only [List.setIfInBounds_toArray, List.set_cons_zero, List.set_cons_succ] at B_b
  have V_w2'_0 := (V_wq).trans (G.below (V_wq).size (fun q hq => by have := (V_wq).size; simp at hq; omega))
  replace B_a := B_a.only G (by first | (simp; done) | (simp; omega))
  replace B_m := B_m.only G (by first | (simp; done) | (simp; omega))
  replace B_r := B_r.only G (by first | (simp; done) | (simp; omega))
  have sG0 := G.size
  clear G
  clear V_wq
  refine Exists.elim (B_r.row11 (.int .i64 a.P) (.int .i64 a.party) (.int .i64 a.input) (.int .i64 a.mask) (.int .i64 a.delta) (.slice x.sa x.sn x.sc) (.slice x.ka x.kn x.kc) (.int .i64 a.step) (.slice x.ha x.hn x.hc) (.int .i64 2) (.int .i64 a.out)) (fun w2' q => ?_)
  rw [q.1]; replace B_r := q.2.1; have G := q.2.2; clear q
  have V_w2' := (V_w2'_0).trans (G.below (V_w2'_0).size (fun q hq => by have := (V_w2'_0).size; simp at hq; omega))
  replace B_a := B_a.only G (by first | (simp; done) | (simp; omega))
  replace B_m := B_m.only G (by first | (simp; done) | (simp; omega))
  replace B_b := B_b.only G (by first | (simp; done) | (simp; omega))
  have sG1 := G.size
  clear G
  clear V_w2'_0
  have S_w2' : wq.heap.size + 0 ≤ w2'.heap.size := by omega
  clear sG0 sG1
  have e_r := B_r.all11
  exact bodyPost_ret (v := .agg #[.int .i64 a.P, .int .i64 a.party, .int .i64 a.input, .int .i64 a.mask, .int .i64 a.delta, .slice x.sa x.sn x.sc, .slice x.ka x.kn x.kc, .int .i64 a.step, .slice x.ha x.hn x.hc, .int .i64 2, .int .i64 a.out]) (by simp [results, Tryd.results91, go_sem, e_r]) rfl ⟨x, rfl, LB.out.below V_w2', V_w2'⟩
set_option maxHeartbeats 16000000 in
set_option maxRecDepth 100000 in
theorem ptTake_len (a : Pl) (x : PlX) (fr st : Int) (b : Option Addr) (n c : Nat) (body : List Int) (w : World) (F : List Nat) (_hF : ∀ q ∈ F, q < w.heap.size) (hPB : PlB F w x a.shares a.keys a.heard) (hM : Ints w b n c body) (hN : PlN a) (hs : a.step ≤ 2) (hb1 : fr = 1 - a.party) (hb2 : st = a.step) (hb3 : n ≠ blen a.step.toNat) :
    Calls Tryd.prog 91 #[.agg #[.int .i64 a.P, .int .i64 a.party, .int .i64 a.input, .int .i64 a.mask, .int .i64 a.delta, .slice x.sa x.sn x.sc, .slice x.ka x.kn x.kc, .int .i64 a.step, .slice x.ha x.hn x.hc, .int .i64 a.status, .int .i64 a.out], .agg #[.int .i64 fr, .int .i64 st, .slice b n c]] w fun e w' => ∃ y, e = .returned (.agg #[.int .i64 a.P, .int .i64 a.party, .int .i64 a.input, .int .i64 a.mask, .int .i64 a.delta, .slice y.sa y.sn y.sc, .slice y.ka y.kn y.kc, .int .i64 a.step, .slice y.ha y.hn y.hc, .int .i64 2, .int .i64 a.out]) ∧ PlB F w' y a.shares a.keys (a.heard) ∧ Below w.heap.size w w' := by
  have h := hPB.rd
  have LB := Lib.hid hPB
  clear hPB
  have hp1 := hN.p1
  have hp2 := hN.p2
  have hpa := hN.pa
  have hst := hN.stp
  have hnl := hM.le
  have t1 : IntKind.i64.wrap (1 - a.party) = 1 - a.party := IntWalk.i64_in _ (by omega)
  have t2 : IntKind.i64.wrap (a.P - 1) = a.P - 1 := IntWalk.i64_in _ (by omega)
  have CL : ∀ (W : World), Calls Tryd.prog 88 #[.int .i64 a.step] W fun e w' => e = .returned (.int .i64 (blen a.step.toNat)) ∧ Below W.heap.size W w' := fun W => by
    have := ptLength_any a.step.toNat W (by omega)
    rwa [Int.toNat_of_nonneg hst.1] at this
  have C4 := fun (W : World) (h2 : Ints W b n c body) => ((l1All_any b n c body 0 (a.P - 1) W h2).mono (fun _ _ ⟨he, hq⟩ => ⟨he, below_of_quiet hq⟩) : Calls Tryd.prog 100 #[.slice b n c, .int .i64 0, .int .i64 (a.P - 1)] W fun e w' => e = .returned (.bool (allB body 0 (a.P - 1))) ∧ Below W.heap.size W w')
  have C5 := fun (hl : n = blen a.step.toNat) (hr : ∀ v ∈ body, 0 ≤ v ∧ v ≤ a.P - 1) (W : World) (h2 : PlR W x a.shares a.keys a.heard) (h3 : Ints W b n c body) => ptHolds_any a x b n c body W h2 h3 hN hs hl hr
  subst hb1
  have d1 : (((1 - a.party) != 1 - a.party) : Bool) = false := by simp
  subst hb2
  have d2 : ((a.step != a.step) : Bool) = false := by simp
  generalize hbn : blen a.step.toNat = B at *
  have d3 : (((n : Int) != (B : Int)) : Bool) = true := by simp; omega
  have LH := Lib.hid h
  have LM := Lib.hid hM
  replace CL := Lib.hid CL
  replace C4 := Lib.hid C4
  replace C5 := Lib.hid C5
  clear h hM hN hs
  clear hb3 hbn
  go_enter Tryd.func91, Tryd.ntmps91
  go_upto_region 2 with fail
  refine Exists.elim (Blk.new_ w (b := w.heap.size) rfl 31 #[.int .i64 a.P, .int .i64 a.party, .int .i64 a.input, .int .i64 a.mask, .int .i64 a.delta, .slice x.sa x.sn x.sc, .slice x.ka x.kn x.kc, .int .i64 a.step, .slice x.ha x.hn x.hc, .int .i64 a.status, .int .i64 a.out]) (fun w1_a0' q => ?_)
  rw [q.1]; have B_a := q.2.1; have s_w1_a0' := q.2.2.1; have u_w1_a0' := q.2.2.2; clear q
  refine Exists.elim (Blk.new_ w1_a0' (b := w.heap.size + 1) s_w1_a0' 44 #[.int .i64 (1 - a.party), .int .i64 a.step, .slice b n c]) (fun w1_a1' q => ?_)
  rw [q.1]; have B_m := q.2.1; have s_w1_a1' := q.2.2.1; have u_w1_a1' := q.2.2.2; clear q
  refine Exists.elim (Blk.new_ w1_a1' (b := w.heap.size + 2) s_w1_a1' 31 #[.int .i64 0, .int .i64 0, .int .i64 0, .int .i64 0, .int .i64 0, .slice none 0 0, .slice none 0 0, .int .i64 0, .slice none 0 0, .int .i64 0, .int .i64 0]) (fun w1_a2' q => ?_)
  rw [q.1]; have B_r := q.2.1; have s_w1_a2' := q.2.2.1; have u_w1_a2' := q.2.2.2; clear q
  refine Exists.elim (Blk.new_ w1_a2' (b := w.heap.size + 3) s_w1_a2' 31 #[.int .i64 a.P, .int .i64 a.party, .int .i64 a.input, .int .i64 a.mask, .int .i64 a.delta, .slice x.sa x.sn x.sc, .slice x.ka x.kn x.kc, .int .i64 a.step, .slice x.ha x.hn x.hc, .int .i64 a.status, .int .i64 a.out]) (fun w1' q => ?_)
  rw [q.1]; have B_b := q.2.1; have s_w1' := q.2.2.1; have u_w1' := q.2.2.2; clear q
  replace B_a := (((B_a.below u_w1_a1').below u_w1_a2').below u_w1')
  replace B_m := ((B_m.below u_w1_a2').below u_w1')
  replace B_r := (B_r.below u_w1')
  have U := (u_w1_a0'.trans ((u_w1_a1'.trans ((u_w1_a2'.trans (u_w1'.mono u_w1_a2'.size)).mono u_w1_a1'.size)).mono u_w1_a0'.size))
  have S_w1' : w.heap.size + 4 ≤ w1'.heap.size := Nat.le_of_eq s_w1'.symm
  have V_w1' := (Below.refl w.heap.size w).trans (U.mono ((Below.refl w.heap.size w)).size)
  clear u_w1_a0' u_w1_a1' u_w1_a2' u_w1' s_w1_a0' s_w1_a1' s_w1_a2' s_w1' U
  try rw [show w.heap.size + 1 + 1 + 1 = w.heap.size + 3 from rfl]
  try rw [show w.heap.size + 1 + 1 = w.heap.size + 2 from rfl]
  have e_a_0 := B_a.a11_0
  have e_a_1 := B_a.a11_1
  have e_a_2 := B_a.a11_2
  have e_a_3 := B_a.a11_3
  have e_a_4 := B_a.a11_4
  have e_a_5 := B_a.a11_5
  have e_a_6 := B_a.a11_6
  have e_a_7 := B_a.a11_7
  have e_a_8 := B_a.a11_8
  have e_a_9 := B_a.a11_9
  have e_a_10 := B_a.a11_10
  have e_m_0 := B_m.a3_0
  have e_m_1 := B_m.a3_1
  have e_m_2 := B_m.a3_2
  go_wp2
  refine wp_region_noPanic ?_
  refine wp_region_held_drew (S := (fun W => Blk W (w.heap.size) 31 #[.int .i64 a.P, .int .i64 a.party, .int .i64 a.input, .int .i64 a.mask, .int .i64 a.delta, .slice x.sa x.sn x.sc, .slice x.ka x.kn x.kc, .int .i64 a.step, .slice x.ha x.hn x.hc, .int .i64 a.status, .int .i64 a.out] ∧ Blk W (w.heap.size + 1) 44 #[.int .i64 (1 - a.party), .int .i64 a.step, .slice b n c])) (by kernel_rfl) ?hS1 (fun hHeld => ?go1)
  case hS1 => exact ⟨B_a.drew, B_m.drew⟩
  refine tk (i := 0) (oi := ⟨some 7, _, _, _, _, _⟩) (v := ?v0_2) hHeld rfl ?y0_2 ?r0_2
  case y0_2 => (intro w _; first | (go_simp; first | done | with_reducible rfl) | with_reducible rfl)
  (try simp only [pt_])
  refine tk (i := 1) (oi := ⟨some 8, _, _, _, _, _⟩) (v := ?v1_3) hHeld rfl ?y1_3 ?r1_3
  case y1_3 => (intro w hSw; obtain ⟨qS0, qS1⟩ := hSw; have cS0 := qS0.all11; have cS1 := qS1.all3; first | (go_simp; first | done | with_reducible rfl) | with_reducible rfl)
  (try simp only [pt_])
  refine tk (i := 2) (oi := ⟨some 9, _, _, _, _, _⟩) (v := ?v2_4) hHeld rfl ?y2_4 ?r2_4
  case y2_4 => (intro w _; first | (go_simp; first | done | with_reducible rfl) | with_reducible rfl)
  (try simp only [pt_])
  refine tk (i := 3) (oi := ⟨some 10, _, _, _, _, _⟩) (v := ?v3_5) hHeld rfl ?y3_5 ?r3_5
  case y3_5 => (intro w hSw; obtain ⟨qS0, qS1⟩ := hSw; have cS0 := qS0.all11; have cS1 := qS1.all3; first | (go_simp; first | done | with_reducible rfl) | with_reducible rfl)
  (try simp only [pt_])
  refine tk (i := 4) (oi := ⟨some 11, _, _, _, _, _⟩) (v := ?v4_6) hHeld rfl ?y4_6 ?r4_6
  case y4_6 => (intro w _; first | (go_simp; first | done | with_reducible rfl) | with_reducible rfl)
  (try simp only [pt_])
  refine tk (i := 5) (oi := ⟨some 12, _, _, _, _, _⟩) (v := ?v5_7) hHeld rfl ?y5_7 ?r5_7
  case y5_7 => (intro w _; first | (go_simp; first | done | with_reducible rfl) | with_reducible rfl)
  (try simp only [pt_])
  refine tk (i := 6) (oi := ⟨some 13, _, _, _, _, _⟩) (v := ?v6_8) hHeld rfl ?y6_8 ?r6_8
  case y6_8 => (intro w _; first | (go_simp; first | done | with_reducible rfl) | with_reducible rfl)
  (try simp only [pt_])
  refine tk (i := 7) (oi := ⟨some 14, _, _, _, _, _⟩) (v := ?v7_9) hHeld rfl ?y7_9 ?r7_9
  case y7_9 => (intro w _; first | (go_simp; first | done | with_reducible rfl) | with_reducible rfl)
  (try simp only [pt_])
  refine tk (i := 8) (oi := ⟨some 15, _, _, _, _, _⟩) (v := ?v8_10) hHeld rfl ?y8_10 ?r8_10
  case y8_10 => (intro w hSw; obtain ⟨qS0, qS1⟩ := hSw; have cS0 := qS0.all11; have cS1 := qS1.all3; first | (go_simp; first | done | with_reducible rfl) | with_reducible rfl)
  (try simp only [pt_])
  refine tk (i := 9) (oi := ⟨some 16, _, _, _, _, _⟩) (v := ?v9_11) hHeld rfl ?y9_11 ?r9_11
  case y9_11 => (intro w _; first | (go_simp; first | done | with_reducible rfl) | with_reducible rfl)
  (try simp only [pt_])
  refine tk (i := 10) (oi := ⟨some 17, _, _, _, _, _⟩) (v := ?v10_12) hHeld rfl ?y10_12 ?r10_12
  case y10_12 => (intro w hSw; obtain ⟨qS0, qS1⟩ := hSw; have cS0 := qS0.all11; have cS1 := qS1.all3; first | (go_simp; first | done | with_reducible rfl) | with_reducible rfl)
  (try simp only [pt_])
  refine tk (i := 11) (oi := ⟨some 18, _, _, _, _, _⟩) (v := ?v11_13) hHeld rfl ?y11_13 ?r11_13
  case y11_13 => (intro w _; first | (go_simp; first | done | with_reducible rfl) | with_reducible rfl)
  (try simp only [pt_])
  refine tk (i := 12) (oi := ⟨some 19, _, _, _, _, _⟩) (v := ?v12_14) hHeld rfl ?y12_14 ?r12_14
  case y12_14 => (intro w _; first | (go_simp; first | done | with_reducible rfl) | with_reducible rfl)
  (try simp only [pt_])
  refine tk (i := 13) (oi := ⟨some 20, _, _, _, _, _⟩) (v := ?v13_15) hHeld rfl ?y13_15 ?r13_15
  case y13_15 => (intro w _; first | (go_simp; first | done | with_reducible rfl) | with_reducible rfl)
  (try simp only [pt_])
  refine tk (i := 14) (oi := ⟨some 21, _, _, _, _, _⟩) (v := ?v14_16) hHeld rfl ?y14_16 ?r14_16
  case y14_16 => (intro w _; first | (go_simp; first | done | with_reducible rfl) | with_reducible rfl)
  (try simp only [pt_])
  refine tk (i := 15) (oi := ⟨some 22, _, _, _, _, _⟩) (v := ?v15_17) hHeld rfl ?y15_17 ?r15_17
  case y15_17 => (intro w hSw; obtain ⟨qS0, qS1⟩ := hSw; have cS0 := qS0.all11; have cS1 := qS1.all3; first | (go_simp; first | done | with_reducible rfl) | with_reducible rfl)
  (try simp only [pt_])
  refine tk (i := 16) (oi := ⟨some 23, _, _, _, _, _⟩) (v := ?v16_18) hHeld rfl ?y16_18 ?r16_18
  case y16_18 => (intro w _; first | (go_simp; first | done | with_reducible rfl) | with_reducible rfl)
  (try simp only [pt_])
  refine tk (i := 17) (oi := ⟨some 24, _, _, _, _, _⟩) (v := ?v17_19) hHeld rfl ?y17_19 ?r17_19
  case y17_19 => (intro w _; first | (go_simp; first | done | with_reducible rfl) | with_reducible rfl)
  (try simp only [pt_])
  refine tk (i := 18) (oi := ⟨some 25, _, _, _, _, _⟩) (v := ?v18_20) hHeld rfl ?y18_20 ?r18_20
  case y18_20 => (intro w hSw; obtain ⟨qS0, qS1⟩ := hSw; have cS0 := qS0.all11; have cS1 := qS1.all3; first | (go_simp; first | done | with_reducible rfl) | with_reducible rfl)
  (try simp only [pt_])
  refine wpAnyH_ready (rs := [19]) (by kernel_rfl) (by simp) ?_
  refine AllReadyH.cons (o := ⟨some 26, _, _, _, _, _⟩) rfl (fun K hK => ?_) ?_
  go_simp
  refine (CL.out _).mono ?_
  rintro e wl ⟨rfl, ul⟩
  have A9 := Blk.below B_a.drew ul
  have M9 := Blk.below B_m.drew ul
  refine hK.out _ _ ?_ (fun hHeld => ?_)
  · exact ⟨A9, M9⟩
  clear hK K
  (try simp only [pt_])
  refine tk (i := 20) (oi := ⟨some 27, _, _, _, _, _⟩) (v := ?v20_21) hHeld rfl ?y20_21 ?r20_21
  case y20_21 => (intro w _; first | (go_simp; first | done | with_reducible rfl) | with_reducible rfl)
  (try simp only [pt_])
  refine tk (i := 21) (oi := ⟨some 28, _, _, _, _, _⟩) (v := ?v21_22) hHeld rfl ?y21_22 ?r21_22
  case y21_22 => (intro w _; first | (go_simp; first | done | with_reducible rfl) | with_reducible rfl)
  (try simp only [pt_])
  refine tk (i := 22) (oi := ⟨some 29, _, _, _, _, _⟩) (v := ?v22_23) hHeld rfl ?y22_23 ?r22_23
  case y22_23 => (intro w _; first | (go_simp; first | done | with_reducible rfl) | with_reducible rfl)
  (try simp only [pt_])
  refine tko (i := 23) (oi := ⟨some 30, _, _, _, _, _⟩) hHeld rfl ?r23_24
  (try simp only [pt_])
  refine tko (i := 24) (oi := ⟨some 31, _, _, _, _, _⟩) hHeld rfl ?r24_25
  (try simp only [pt_])
  refine tko (i := 25) (oi := ⟨some 32, _, _, _, _, _⟩) hHeld rfl ?r25_26
  (try simp only [pt_])
  refine tko (i := 26) (oi := ⟨some 33, _, _, _, _, _⟩) hHeld rfl ?r26_27
  (try simp only [pt_])
  refine tko (i := 27) (oi := ⟨some 34, _, _, _, _, _⟩) hHeld rfl ?r27_28
  (try simp only [pt_])
  refine tko (i := 28) (oi := ⟨some 35, _, _, _, _, _⟩) hHeld rfl ?r28_29
  (try simp only [pt_])
  refine tko (i := 29) (oi := ⟨some 36, _, _, _, _, _⟩) hHeld rfl ?r29_30
  (try simp only [pt_])
  refine tk (i := 30) (oi := ⟨some 37, _, _, _, _, _⟩) (v := ?v30_31) hHeld rfl ?y30_31 ?r30_31
  case y30_31 => (intro w _; first | (go_simp; first | done | with_reducible rfl) | with_reducible rfl)
  (try simp only [pt_])
  refine tk (i := 31) (oi := ⟨some 38, _, _, _, _, _⟩) (v := ?v31_32) hHeld rfl ?y31_32 ?r31_32
  case y31_32 => (intro w _; first | (go_simp; first | done | with_reducible rfl) | with_reducible rfl)
  (try simp only [pt_])
  refine tko (i := 32) (oi := ⟨some 39, _, _, _, _, _⟩) hHeld rfl ?r32_33
  (try simp only [pt_])
  refine tko (i := 33) (oi := ⟨some 40, _, _, _, _, _⟩) hHeld rfl ?r33_34
  (try simp only [pt_])
  refine tko (i := 34) (oi := ⟨some 41, _, _, _, _, _⟩) hHeld rfl ?r34_35
  (try simp only [pt_])
  refine tko (i := 35) (oi := ⟨some 42, _, _, _, _, _⟩) hHeld rfl ?r35_36
  (try simp only [pt_])
  refine tko (i := 36) (oi := ⟨some 43, _, _, _, _, _⟩) hHeld rfl ?r36_37
  (try simp only [pt_])
  refine tk (i := 37) (oi := ⟨some 44, _, _, _, _, _⟩) (v := ?v37_38) hHeld rfl ?y37_38 ?r37_38
  case y37_38 => (intro w _; first | (go_simp; first | done | with_reducible rfl) | with_reducible rfl)
  (try simp only [pt_])
  refine wpAnyH_done (by kernel_rfl) ?_ _
  refine NoPanic.normal ?_
  rotate_left 1
  exact AllReadyH.nil
  have u9 : Below w1'.heap.size w1' wl := (Below.refl _ _).drew.trans ul
  clear ul A9 M9
  clear e_a_0 e_a_1 e_a_2 e_a_3 e_a_4 e_a_5 e_a_6 e_a_7 e_a_8 e_a_9 e_a_10 e_m_0 e_m_1 e_m_2
  replace B_a := B_a.below u9
  replace B_m := B_m.below u9
  replace B_r := B_r.below u9
  replace B_b := B_b.below u9
  have S_wl := u9.size
  have V_wl : Below w.heap.size w wl := V_w1'.trans (u9.mono V_w1'.size)
  clear V_w1'
  clear u9
  have e_b := B_b.all11
  have f_b := B_b.frz11
  have e_r := B_r.all11
  have f_r := B_r.frz11
  go_wp2
  clear e_b f_b e_r f_r
  have g_1 : Only [w.heap.size + 3] wl (wl.setCell ⟨w.heap.size + 3, 9, none⟩ (.int .i64 2)) := (Only.refl _ _).setCell _ _ (by simp)
  replace B_b := B_b.set_ 9 (.int .i64 2)
  generalize wl.setCell ⟨w.heap.size + 3, 9, none⟩ (.int .i64 2) = w2_1' at *
  have G := g_1
  clear g_1
  simp only [List.setIfInBounds_toArray, List.set_cons_zero, List.set_cons_succ] at B_b
  have V_w2'_0 := (V_wl).trans (G.below (V_wl).size (fun q hq => by have := (V_wl).size; simp at hq; omega))
  replace B_a := B_a.only G (by first | (simp; done) | (simp; omega))
  replace B_m := B_m.only G (by first | (simp; done) | (simp; omega))
  replace B_r := B_r.only G (by first | (simp; done) | (simp; omega))
  have sG0 := G.size
  clear G
  clear V_wl
  refine Exists.elim (B_r.row11 (.int .i64 a.P) (.int .i64 a.party) (.int .i64 a.input) (.int .i64 a.mask) (.int .i64 a.delta) (.slice x.sa x.sn x.sc) (.slice x.ka x.kn x.kc) (.int .i64 a.step) (.slice x.ha x.hn x.hc) (.int .i64 2) (.int .i64 a.out)) (fun w2' q => ?_)
  rw [q.1]; replace B_r := q.2.1; have G := q.2.2; clear q
  have V_w2' := (V_w2'_0).trans (G.below (V_w2'_0).size (fun q hq => by have := (V_w2'_0).size; simp at hq; omega))
  replace B_a := B_a.only G (by first | (simp; done) | (simp; omega))
  replace B_m := B_m.only G (by first | (simp; done) | (simp; omega))
  replace B_b := B_b.only G (by first | (simp; done) | (simp; omega))
  have sG1 := G.size
  clear G
  clear V_w2'_0
  have S_w2' : wl.heap.size + 0 ≤ w2'.heap.size := by omega
  clear sG0 sG1
  have e_r := B_r.all11
  exact bodyPost_ret (v := .agg #[.int .i64 a.P, .int .i64 a.party, .int .i64 a.input, .int .i64 a.mask, .int .i64 a.delta, .slice x.sa x.sn x.sc, .slice x.ka x.kn x.kc, .int .i64 a.step, .slice x.ha x.hn x.hc, .int .i64 2, .int .i64 a.out]) (by simp [results, Tryd.results91, go_sem, e_r]) rfl ⟨x, rfl, LB.out.below V_w2', V_w2'⟩
set_option maxHeartbeats 16000000 in
set_option maxRecDepth 100000 in
theorem ptTake_all (a : Pl) (x : PlX) (fr st : Int) (b : Option Addr) (n c : Nat) (body : List Int) (w : World) (F : List Nat) (_hF : ∀ q ∈ F, q < w.heap.size) (hPB : PlB F w x a.shares a.keys a.heard) (hM : Ints w b n c body) (hN : PlN a) (hs : a.step ≤ 2) (hb1 : fr = 1 - a.party) (hb2 : st = a.step) (hb3 : n = blen a.step.toNat) (hb4 : allB body 0 (a.P - 1) = false) :
    Calls Tryd.prog 91 #[.agg #[.int .i64 a.P, .int .i64 a.party, .int .i64 a.input, .int .i64 a.mask, .int .i64 a.delta, .slice x.sa x.sn x.sc, .slice x.ka x.kn x.kc, .int .i64 a.step, .slice x.ha x.hn x.hc, .int .i64 a.status, .int .i64 a.out], .agg #[.int .i64 fr, .int .i64 st, .slice b n c]] w fun e w' => ∃ y, e = .returned (.agg #[.int .i64 a.P, .int .i64 a.party, .int .i64 a.input, .int .i64 a.mask, .int .i64 a.delta, .slice y.sa y.sn y.sc, .slice y.ka y.kn y.kc, .int .i64 a.step, .slice y.ha y.hn y.hc, .int .i64 2, .int .i64 a.out]) ∧ PlB F w' y a.shares a.keys (a.heard) ∧ Below w.heap.size w w' := by
  have h := hPB.rd
  have LB := Lib.hid hPB
  clear hPB
  have hp1 := hN.p1
  have hp2 := hN.p2
  have hpa := hN.pa
  have hst := hN.stp
  have hnl := hM.le
  have t1 : IntKind.i64.wrap (1 - a.party) = 1 - a.party := IntWalk.i64_in _ (by omega)
  have t2 : IntKind.i64.wrap (a.P - 1) = a.P - 1 := IntWalk.i64_in _ (by omega)
  have CL : ∀ (W : World), Calls Tryd.prog 88 #[.int .i64 a.step] W fun e w' => e = .returned (.int .i64 (blen a.step.toNat)) ∧ Below W.heap.size W w' := fun W => by
    have := ptLength_any a.step.toNat W (by omega)
    rwa [Int.toNat_of_nonneg hst.1] at this
  have C4 := fun (W : World) (h2 : Ints W b n c body) => ((l1All_any b n c body 0 (a.P - 1) W h2).mono (fun _ _ ⟨he, hq⟩ => ⟨he, below_of_quiet hq⟩) : Calls Tryd.prog 100 #[.slice b n c, .int .i64 0, .int .i64 (a.P - 1)] W fun e w' => e = .returned (.bool (allB body 0 (a.P - 1))) ∧ Below W.heap.size W w')
  have C5 := fun (hl : n = blen a.step.toNat) (hr : ∀ v ∈ body, 0 ≤ v ∧ v ≤ a.P - 1) (W : World) (h2 : PlR W x a.shares a.keys a.heard) (h3 : Ints W b n c body) => ptHolds_any a x b n c body W h2 h3 hN hs hl hr
  subst hb1
  have d1 : (((1 - a.party) != 1 - a.party) : Bool) = false := by simp
  subst hb2
  have d2 : ((a.step != a.step) : Bool) = false := by simp
  generalize hbn : blen a.step.toNat = B at *
  have d3 : (((n : Int) != (B : Int)) : Bool) = false := by simp; omega
  rw [hb4] at C4
  have LH := Lib.hid h
  have LM := Lib.hid hM
  replace CL := Lib.hid CL
  replace C4 := Lib.hid C4
  replace C5 := Lib.hid C5
  clear h hM hN hs
  clear hb3 hbn
  clear hb4
  go_enter Tryd.func91, Tryd.ntmps91
  go_upto_region 2 with fail
  refine Exists.elim (Blk.new_ w (b := w.heap.size) rfl 31 #[.int .i64 a.P, .int .i64 a.party, .int .i64 a.input, .int .i64 a.mask, .int .i64 a.delta, .slice x.sa x.sn x.sc, .slice x.ka x.kn x.kc, .int .i64 a.step, .slice x.ha x.hn x.hc, .int .i64 a.status, .int .i64 a.out]) (fun w1_a0' q => ?_)
  rw [q.1]; have B_a := q.2.1; have s_w1_a0' := q.2.2.1; have u_w1_a0' := q.2.2.2; clear q
  refine Exists.elim (Blk.new_ w1_a0' (b := w.heap.size + 1) s_w1_a0' 44 #[.int .i64 (1 - a.party), .int .i64 a.step, .slice b n c]) (fun w1_a1' q => ?_)
  rw [q.1]; have B_m := q.2.1; have s_w1_a1' := q.2.2.1; have u_w1_a1' := q.2.2.2; clear q
  refine Exists.elim (Blk.new_ w1_a1' (b := w.heap.size + 2) s_w1_a1' 31 #[.int .i64 0, .int .i64 0, .int .i64 0, .int .i64 0, .int .i64 0, .slice none 0 0, .slice none 0 0, .int .i64 0, .slice none 0 0, .int .i64 0, .int .i64 0]) (fun w1_a2' q => ?_)
  rw [q.1]; have B_r := q.2.1; have s_w1_a2' := q.2.2.1; have u_w1_a2' := q.2.2.2; clear q
  refine Exists.elim (Blk.new_ w1_a2' (b := w.heap.size + 3) s_w1_a2' 31 #[.int .i64 a.P, .int .i64 a.party, .int .i64 a.input, .int .i64 a.mask, .int .i64 a.delta, .slice x.sa x.sn x.sc, .slice x.ka x.kn x.kc, .int .i64 a.step, .slice x.ha x.hn x.hc, .int .i64 a.status, .int .i64 a.out]) (fun w1' q => ?_)
  rw [q.1]; have B_b := q.2.1; have s_w1' := q.2.2.1; have u_w1' := q.2.2.2; clear q
  replace B_a := (((B_a.below u_w1_a1').below u_w1_a2').below u_w1')
  replace B_m := ((B_m.below u_w1_a2').below u_w1')
  replace B_r := (B_r.below u_w1')
  have U := (u_w1_a0'.trans ((u_w1_a1'.trans ((u_w1_a2'.trans (u_w1'.mono u_w1_a2'.size)).mono u_w1_a1'.size)).mono u_w1_a0'.size))
  have S_w1' : w.heap.size + 4 ≤ w1'.heap.size := Nat.le_of_eq s_w1'.symm
  have V_w1' := (Below.refl w.heap.size w).trans (U.mono ((Below.refl w.heap.size w)).size)
  clear u_w1_a0' u_w1_a1' u_w1_a2' u_w1' s_w1_a0' s_w1_a1' s_w1_a2' s_w1' U
  try rw [show w.heap.size + 1 + 1 + 1 = w.heap.size + 3 from rfl]
  try rw [show w.heap.size + 1 + 1 = w.heap.size + 2 from rfl]
  have e_a_0 := B_a.a11_0
  have e_a_1 := B_a.a11_1
  have e_a_2 := B_a.a11_2
  have e_a_3 := B_a.a11_3
  have e_a_4 := B_a.a11_4
  have e_a_5 := B_a.a11_5
  have e_a_6 := B_a.a11_6
  have e_a_7 := B_a.a11_7
  have e_a_8 := B_a.a11_8
  have e_a_9 := B_a.a11_9
  have e_a_10 := B_a.a11_10
  have e_m_0 := B_m.a3_0
  have e_m_1 := B_m.a3_1
  have e_m_2 := B_m.a3_2
  have hMd := (LM.out.below V_w1').below (Below.refl _ _).drew
  go_wp2
  refine wp_region_noPanic ?_
  refine wp_region_held_drew (S := (fun W => Blk W (w.heap.size) 31 #[.int .i64 a.P, .int .i64 a.party, .int .i64 a.input, .int .i64 a.mask, .int .i64 a.delta, .slice x.sa x.sn x.sc, .slice x.ka x.kn x.kc, .int .i64 a.step, .slice x.ha x.hn x.hc, .int .i64 a.status, .int .i64 a.out] ∧ Blk W (w.heap.size + 1) 44 #[.int .i64 (1 - a.party), .int .i64 a.step, .slice b n c])) (by kernel_rfl) ?hS39 (fun hHeld => ?go39)
  case hS39 => exact ⟨B_a.drew, B_m.drew⟩
  refine tk (i := 0) (oi := ⟨some 7, _, _, _, _, _⟩) (v := ?v0_40) hHeld rfl ?y0_40 ?r0_40
  case y0_40 => (intro w _; first | (go_simp; first | done | with_reducible rfl) | with_reducible rfl)
  (try simp only [pt_])
  refine tk (i := 1) (oi := ⟨some 8, _, _, _, _, _⟩) (v := ?v1_41) hHeld rfl ?y1_41 ?r1_41
  case y1_41 => (intro w hSw; obtain ⟨qS0, qS1⟩ := hSw; have cS0 := qS0.all11; have cS1 := qS1.all3; first | (go_simp; first | done | with_reducible rfl) | with_reducible rfl)
  (try simp only [pt_])
  refine tk (i := 2) (oi := ⟨some 9, _, _, _, _, _⟩) (v := ?v2_42) hHeld rfl ?y2_42 ?r2_42
  case y2_42 => (intro w _; first | (go_simp; first | done | with_reducible rfl) | with_reducible rfl)
  (try simp only [pt_])
  refine tk (i := 3) (oi := ⟨some 10, _, _, _, _, _⟩) (v := ?v3_43) hHeld rfl ?y3_43 ?r3_43
  case y3_43 => (intro w hSw; obtain ⟨qS0, qS1⟩ := hSw; have cS0 := qS0.all11; have cS1 := qS1.all3; first | (go_simp; first | done | with_reducible rfl) | with_reducible rfl)
  (try simp only [pt_])
  refine tk (i := 4) (oi := ⟨some 11, _, _, _, _, _⟩) (v := ?v4_44) hHeld rfl ?y4_44 ?r4_44
  case y4_44 => (intro w _; first | (go_simp; first | done | with_reducible rfl) | with_reducible rfl)
  (try simp only [pt_])
  refine tk (i := 5) (oi := ⟨some 12, _, _, _, _, _⟩) (v := ?v5_45) hHeld rfl ?y5_45 ?r5_45
  case y5_45 => (intro w _; first | (go_simp; first | done | with_reducible rfl) | with_reducible rfl)
  (try simp only [pt_])
  refine tk (i := 6) (oi := ⟨some 13, _, _, _, _, _⟩) (v := ?v6_46) hHeld rfl ?y6_46 ?r6_46
  case y6_46 => (intro w _; first | (go_simp; first | done | with_reducible rfl) | with_reducible rfl)
  (try simp only [pt_])
  refine tk (i := 7) (oi := ⟨some 14, _, _, _, _, _⟩) (v := ?v7_47) hHeld rfl ?y7_47 ?r7_47
  case y7_47 => (intro w _; first | (go_simp; first | done | with_reducible rfl) | with_reducible rfl)
  (try simp only [pt_])
  refine tk (i := 8) (oi := ⟨some 15, _, _, _, _, _⟩) (v := ?v8_48) hHeld rfl ?y8_48 ?r8_48
  case y8_48 => (intro w hSw; obtain ⟨qS0, qS1⟩ := hSw; have cS0 := qS0.all11; have cS1 := qS1.all3; first | (go_simp; first | done | with_reducible rfl) | with_reducible rfl)
  (try simp only [pt_])
  refine tk (i := 9) (oi := ⟨some 16, _, _, _, _, _⟩) (v := ?v9_49) hHeld rfl ?y9_49 ?r9_49
  case y9_49 => (intro w _; first | (go_simp; first | done | with_reducible rfl) | with_reducible rfl)
  (try simp only [pt_])
  refine tk (i := 10) (oi := ⟨some 17, _, _, _, _, _⟩) (v := ?v10_50) hHeld rfl ?y10_50 ?r10_50
  case y10_50 => (intro w hSw; obtain ⟨qS0, qS1⟩ := hSw; have cS0 := qS0.all11; have cS1 := qS1.all3; first | (go_simp; first | done | with_reducible rfl) | with_reducible rfl)
  (try simp only [pt_])
  refine tk (i := 11) (oi := ⟨some 18, _, _, _, _, _⟩) (v := ?v11_51) hHeld rfl ?y11_51 ?r11_51
  case y11_51 => (intro w _; first | (go_simp; first | done | with_reducible rfl) | with_reducible rfl)
  (try simp only [pt_])
  refine tk (i := 12) (oi := ⟨some 19, _, _, _, _, _⟩) (v := ?v12_52) hHeld rfl ?y12_52 ?r12_52
  case y12_52 => (intro w _; first | (go_simp; first | done | with_reducible rfl) | with_reducible rfl)
  (try simp only [pt_])
  refine tk (i := 13) (oi := ⟨some 20, _, _, _, _, _⟩) (v := ?v13_53) hHeld rfl ?y13_53 ?r13_53
  case y13_53 => (intro w _; first | (go_simp; first | done | with_reducible rfl) | with_reducible rfl)
  (try simp only [pt_])
  refine tk (i := 14) (oi := ⟨some 21, _, _, _, _, _⟩) (v := ?v14_54) hHeld rfl ?y14_54 ?r14_54
  case y14_54 => (intro w _; first | (go_simp; first | done | with_reducible rfl) | with_reducible rfl)
  (try simp only [pt_])
  refine tk (i := 15) (oi := ⟨some 22, _, _, _, _, _⟩) (v := ?v15_55) hHeld rfl ?y15_55 ?r15_55
  case y15_55 => (intro w hSw; obtain ⟨qS0, qS1⟩ := hSw; have cS0 := qS0.all11; have cS1 := qS1.all3; first | (go_simp; first | done | with_reducible rfl) | with_reducible rfl)
  (try simp only [pt_])
  refine tk (i := 16) (oi := ⟨some 23, _, _, _, _, _⟩) (v := ?v16_56) hHeld rfl ?y16_56 ?r16_56
  case y16_56 => (intro w _; first | (go_simp; first | done | with_reducible rfl) | with_reducible rfl)
  (try simp only [pt_])
  refine tk (i := 17) (oi := ⟨some 24, _, _, _, _, _⟩) (v := ?v17_57) hHeld rfl ?y17_57 ?r17_57
  case y17_57 => (intro w _; first | (go_simp; first | done | with_reducible rfl) | with_reducible rfl)
  (try simp only [pt_])
  refine tk (i := 18) (oi := ⟨some 25, _, _, _, _, _⟩) (v := ?v18_58) hHeld rfl ?y18_58 ?r18_58
  case y18_58 => (intro w hSw; obtain ⟨qS0, qS1⟩ := hSw; have cS0 := qS0.all11; have cS1 := qS1.all3; first | (go_simp; first | done | with_reducible rfl) | with_reducible rfl)
  (try simp only [pt_])
  refine wpAnyH_ready (rs := [19]) (by kernel_rfl) (by simp) ?_
  refine AllReadyH.cons (o := ⟨some 26, _, _, _, _, _⟩) rfl (fun K hK => ?_) ?_
  go_simp
  refine (CL.out _).mono ?_
  rintro e wl ⟨rfl, ul⟩
  have A9 := Blk.below B_a.drew ul
  have M9 := Blk.below B_m.drew ul
  refine hK.out _ _ ?_ (fun hHeld => ?_)
  · exact ⟨A9, M9⟩
  clear hK K
  (try simp only [pt_])
  refine tk (i := 20) (oi := ⟨some 27, _, _, _, _, _⟩) (v := ?v20_59) hHeld rfl ?y20_59 ?r20_59
  case y20_59 => (intro w _; first | (go_simp; first | done | with_reducible rfl) | with_reducible rfl)
  (try simp only [pt_])
  refine tk (i := 21) (oi := ⟨some 28, _, _, _, _, _⟩) (v := ?v21_60) hHeld rfl ?y21_60 ?r21_60
  case y21_60 => (intro w _; first | (go_simp; first | done | with_reducible rfl) | with_reducible rfl)
  (try simp only [pt_])
  refine tk (i := 22) (oi := ⟨some 29, _, _, _, _, _⟩) (v := ?v22_61) hHeld rfl ?y22_61 ?r22_61
  case y22_61 => (intro w _; first | (go_simp; first | done | with_reducible rfl) | with_reducible rfl)
  (try simp only [pt_])
  refine tk (i := 23) (oi := ⟨some 30, _, _, _, _, _⟩) (v := ?v23_62) hHeld rfl ?y23_62 ?r23_62
  case y23_62 => (intro w _; first | (go_simp; first | done | with_reducible rfl) | with_reducible rfl)
  (try simp only [pt_])
  refine tk (i := 24) (oi := ⟨some 31, _, _, _, _, _⟩) (v := ?v24_63) hHeld rfl ?y24_63 ?r24_63
  case y24_63 => (intro w hSw; obtain ⟨qS0, qS1⟩ := hSw; have cS0 := qS0.all11; have cS1 := qS1.all3; first | (go_simp; first | done | with_reducible rfl) | with_reducible rfl)
  (try simp only [pt_])
  refine tk (i := 25) (oi := ⟨some 32, _, _, _, _, _⟩) (v := ?v25_64) hHeld rfl ?y25_64 ?r25_64
  case y25_64 => (intro w _; first | (go_simp; first | done | with_reducible rfl) | with_reducible rfl)
  (try simp only [pt_])
  refine tk (i := 26) (oi := ⟨some 33, _, _, _, _, _⟩) (v := ?v26_65) hHeld rfl ?y26_65 ?r26_65
  case y26_65 => (intro w hSw; obtain ⟨qS0, qS1⟩ := hSw; have cS0 := qS0.all11; have cS1 := qS1.all3; first | (go_simp; first | done | with_reducible rfl) | with_reducible rfl)
  (try simp only [pt_])
  refine tk (i := 27) (oi := ⟨some 34, _, _, _, _, _⟩) (v := ?v27_66) hHeld rfl ?y27_66 ?r27_66
  case y27_66 => (intro w _; first | (go_simp; first | done | with_reducible rfl) | with_reducible rfl)
  (try simp only [pt_])
  refine wpAnyH_ready (rs := [28]) (by kernel_rfl) (by simp) ?_
  refine AllReadyH.cons (o := ⟨some 35, _, _, _, _, _⟩) rfl (fun K hK => ?_) ?_
  go_simp
  refine (C4.out _ (hMd.below ul)).mono ?_
  rintro e wa ⟨rfl, ua⟩
  refine hK.out _ _ ?_ (fun hHeld => ?_)
  · exact ⟨Blk.below A9 ua, Blk.below M9 ua⟩
  clear hK K
  (try simp only [pt_])
  refine tk (i := 29) (oi := ⟨some 36, _, _, _, _, _⟩) (v := ?v29_67) hHeld rfl ?y29_67 ?r29_67
  case y29_67 => (intro w _; first | (go_simp; first | done | with_reducible rfl) | with_reducible rfl)
  (try simp only [pt_])
  refine tk (i := 30) (oi := ⟨some 37, _, _, _, _, _⟩) (v := ?v30_68) hHeld rfl ?y30_68 ?r30_68
  case y30_68 => (intro w _; first | (go_simp; first | done | with_reducible rfl) | with_reducible rfl)
  (try simp only [pt_])
  refine tk (i := 31) (oi := ⟨some 38, _, _, _, _, _⟩) (v := ?v31_69) hHeld rfl ?y31_69 ?r31_69
  case y31_69 => (intro w _; first | (go_simp; first | done | with_reducible rfl) | with_reducible rfl)
  (try simp only [pt_])
  refine tko (i := 32) (oi := ⟨some 39, _, _, _, _, _⟩) hHeld rfl ?r32_70
  (try simp only [pt_])
  refine tko (i := 33) (oi := ⟨some 40, _, _, _, _, _⟩) hHeld rfl ?r33_71
  (try simp only [pt_])
  refine tko (i := 34) (oi := ⟨some 41, _, _, _, _, _⟩) hHeld rfl ?r34_72
  (try simp only [pt_])
  refine tko (i := 35) (oi := ⟨some 42, _, _, _, _, _⟩) hHeld rfl ?r35_73
  (try simp only [pt_])
  refine tko (i := 36) (oi := ⟨some 43, _, _, _, _, _⟩) hHeld rfl ?r36_74
  (try simp only [pt_])
  refine tk (i := 37) (oi := ⟨some 44, _, _, _, _, _⟩) (v := ?v37_75) hHeld rfl ?y37_75 ?r37_75
  case y37_75 => (intro w _; first | (go_simp; first | done | with_reducible rfl) | with_reducible rfl)
  (try simp only [pt_])
  refine wpAnyH_done (by kernel_rfl) ?_ _
  refine NoPanic.normal ?_
  rotate_left 1
  exact AllReadyH.nil
  exact AllReadyH.nil
  have u9 : Below w1'.heap.size w1' wa := (Below.refl _ _).drew.trans (ul.trans (ua.mono ul.size))
  clear ul ua A9 M9 hMd
  clear e_a_0 e_a_1 e_a_2 e_a_3 e_a_4 e_a_5 e_a_6 e_a_7 e_a_8 e_a_9 e_a_10 e_m_0 e_m_1 e_m_2
  replace B_a := B_a.below u9
  replace B_m := B_m.below u9
  replace B_r := B_r.below u9
  replace B_b := B_b.below u9
  have S_wa := u9.size
  have V_wa : Below w.heap.size w wa := V_w1'.trans (u9.mono V_w1'.size)
  clear V_w1'
  clear u9
  have e_b := B_b.all11
  have f_b := B_b.frz11
  have e_r := B_r.all11
  have f_r := B_r.frz11
  go_wp2
  clear e_b f_b e_r f_r
  have g_1 : Only [w.heap.size + 3] wa (wa.setCell ⟨w.heap.size + 3, 9, none⟩ (.int .i64 2)) := (Only.refl _ _).setCell _ _ (by simp)
  replace B_b := B_b.set_ 9 (.int .i64 2)
  generalize wa.setCell ⟨w.heap.size + 3, 9, none⟩ (.int .i64 2) = w2_1' at *
  have G := g_1
  clear g_1
  simp only [List.setIfInBounds_toArray, List.set_cons_zero, List.set_cons_succ] at B_b
  have V_w2'_0 := (V_wa).trans (G.below (V_wa).size (fun q hq => by have := (V_wa).size; simp at hq; omega))
  replace B_a := B_a.only G (by first | (simp; done) | (simp; omega))
  replace B_m := B_m.only G (by first | (simp; done) | (simp; omega))
  replace B_r := B_r.only G (by first | (simp; done) | (simp; omega))
  have sG0 := G.size
  clear G
  clear V_wa
  refine Exists.elim (B_r.row11 (.int .i64 a.P) (.int .i64 a.party) (.int .i64 a.input) (.int .i64 a.mask) (.int .i64 a.delta) (.slice x.sa x.sn x.sc) (.slice x.ka x.kn x.kc) (.int .i64 a.step) (.slice x.ha x.hn x.hc) (.int .i64 2) (.int .i64 a.out)) (fun w2' q => ?_)
  rw [q.1]; replace B_r := q.2.1; have G := q.2.2; clear q
  have V_w2' := (V_w2'_0).trans (G.below (V_w2'_0).size (fun q hq => by have := (V_w2'_0).size; simp at hq; omega))
  replace B_a := B_a.only G (by first | (simp; done) | (simp; omega))
  replace B_m := B_m.only G (by first | (simp; done) | (simp; omega))
  replace B_b := B_b.only G (by first | (simp; done) | (simp; omega))
  have sG1 := G.size
  clear G
  clear V_w2'_0
  have S_w2' : wa.heap.size + 0 ≤ w2'.heap.size := by omega
  clear sG0 sG1
  have e_r := B_r.all11
  exact bodyPost_ret (v := .agg #[.int .i64 a.P, .int .i64 a.party, .int .i64 a.input, .int .i64 a.mask, .int .i64 a.delta, .slice x.sa x.sn x.sc, .slice x.ka x.kn x.kc, .int .i64 a.step, .slice x.ha x.hn x.hc, .int .i64 2, .int .i64 a.out]) (by simp [results, Tryd.results91, go_sem, e_r]) rfl ⟨x, rfl, LB.out.below V_w2', V_w2'⟩
set_option maxHeartbeats 16000000 in
set_option maxRecDepth 100000 in
theorem ptTake_holds (a : Pl) (x : PlX) (fr st : Int) (b : Option Addr) (n c : Nat) (body : List Int) (w : World) (F : List Nat) (_hF : ∀ q ∈ F, q < w.heap.size) (hPB : PlB F w x a.shares a.keys a.heard) (hM : Ints w b n c body) (hN : PlN a) (hs : a.step ≤ 2) (hb1 : fr = 1 - a.party) (hb2 : st = a.step) (hb3 : n = blen a.step.toNat) (hb4 : allB body 0 (a.P - 1) = true) (hb5 : accT a body = false) :
    Calls Tryd.prog 91 #[.agg #[.int .i64 a.P, .int .i64 a.party, .int .i64 a.input, .int .i64 a.mask, .int .i64 a.delta, .slice x.sa x.sn x.sc, .slice x.ka x.kn x.kc, .int .i64 a.step, .slice x.ha x.hn x.hc, .int .i64 a.status, .int .i64 a.out], .agg #[.int .i64 fr, .int .i64 st, .slice b n c]] w fun e w' => ∃ y, e = .returned (.agg #[.int .i64 a.P, .int .i64 a.party, .int .i64 a.input, .int .i64 a.mask, .int .i64 a.delta, .slice y.sa y.sn y.sc, .slice y.ka y.kn y.kc, .int .i64 a.step, .slice y.ha y.hn y.hc, .int .i64 2, .int .i64 a.out]) ∧ PlB F w' y a.shares a.keys (a.heard) ∧ Below w.heap.size w w' := by
  have h := hPB.rd
  have LB := Lib.hid hPB
  clear hPB
  have hp1 := hN.p1
  have hp2 := hN.p2
  have hpa := hN.pa
  have hst := hN.stp
  have hnl := hM.le
  have t1 : IntKind.i64.wrap (1 - a.party) = 1 - a.party := IntWalk.i64_in _ (by omega)
  have t2 : IntKind.i64.wrap (a.P - 1) = a.P - 1 := IntWalk.i64_in _ (by omega)
  have CL : ∀ (W : World), Calls Tryd.prog 88 #[.int .i64 a.step] W fun e w' => e = .returned (.int .i64 (blen a.step.toNat)) ∧ Below W.heap.size W w' := fun W => by
    have := ptLength_any a.step.toNat W (by omega)
    rwa [Int.toNat_of_nonneg hst.1] at this
  have C4 := fun (W : World) (h2 : Ints W b n c body) => ((l1All_any b n c body 0 (a.P - 1) W h2).mono (fun _ _ ⟨he, hq⟩ => ⟨he, below_of_quiet hq⟩) : Calls Tryd.prog 100 #[.slice b n c, .int .i64 0, .int .i64 (a.P - 1)] W fun e w' => e = .returned (.bool (allB body 0 (a.P - 1))) ∧ Below W.heap.size W w')
  have C5 := fun (hl : n = blen a.step.toNat) (hr : ∀ v ∈ body, 0 ≤ v ∧ v ≤ a.P - 1) (W : World) (h2 : PlR W x a.shares a.keys a.heard) (h3 : Ints W b n c body) => ptHolds_any a x b n c body W h2 h3 hN hs hl hr
  subst hb1
  have d1 : (((1 - a.party) != 1 - a.party) : Bool) = false := by simp
  subst hb2
  have d2 : ((a.step != a.step) : Bool) = false := by simp
  generalize hbn : blen a.step.toNat = B at *
  have d3 : (((n : Int) != (B : Int)) : Bool) = false := by simp; omega
  rw [hb4] at C4
  replace C5 := C5 hb3 ((allB_iff _ _ _).1 hb4)
  rw [hb5] at C5
  have LH := Lib.hid h
  have LM := Lib.hid hM
  replace CL := Lib.hid CL
  replace C4 := Lib.hid C4
  replace C5 := Lib.hid C5
  clear h hM hN hs
  clear hb3 hbn
  clear hb4
  clear hb5
  go_enter Tryd.func91, Tryd.ntmps91
  go_upto_region 2 with fail
  refine Exists.elim (Blk.new_ w (b := w.heap.size) rfl 31 #[.int .i64 a.P, .int .i64 a.party, .int .i64 a.input, .int .i64 a.mask, .int .i64 a.delta, .slice x.sa x.sn x.sc, .slice x.ka x.kn x.kc, .int .i64 a.step, .slice x.ha x.hn x.hc, .int .i64 a.status, .int .i64 a.out]) (fun w1_a0' q => ?_)
  rw [q.1]; have B_a := q.2.1; have s_w1_a0' := q.2.2.1; have u_w1_a0' := q.2.2.2; clear q
  refine Exists.elim (Blk.new_ w1_a0' (b := w.heap.size + 1) s_w1_a0' 44 #[.int .i64 (1 - a.party), .int .i64 a.step, .slice b n c]) (fun w1_a1' q => ?_)
  rw [q.1]; have B_m := q.2.1; have s_w1_a1' := q.2.2.1; have u_w1_a1' := q.2.2.2; clear q
  refine Exists.elim (Blk.new_ w1_a1' (b := w.heap.size + 2) s_w1_a1' 31 #[.int .i64 0, .int .i64 0, .int .i64 0, .int .i64 0, .int .i64 0, .slice none 0 0, .slice none 0 0, .int .i64 0, .slice none 0 0, .int .i64 0, .int .i64 0]) (fun w1_a2' q => ?_)
  rw [q.1]; have B_r := q.2.1; have s_w1_a2' := q.2.2.1; have u_w1_a2' := q.2.2.2; clear q
  refine Exists.elim (Blk.new_ w1_a2' (b := w.heap.size + 3) s_w1_a2' 31 #[.int .i64 a.P, .int .i64 a.party, .int .i64 a.input, .int .i64 a.mask, .int .i64 a.delta, .slice x.sa x.sn x.sc, .slice x.ka x.kn x.kc, .int .i64 a.step, .slice x.ha x.hn x.hc, .int .i64 a.status, .int .i64 a.out]) (fun w1' q => ?_)
  rw [q.1]; have B_b := q.2.1; have s_w1' := q.2.2.1; have u_w1' := q.2.2.2; clear q
  replace B_a := (((B_a.below u_w1_a1').below u_w1_a2').below u_w1')
  replace B_m := ((B_m.below u_w1_a2').below u_w1')
  replace B_r := (B_r.below u_w1')
  have U := (u_w1_a0'.trans ((u_w1_a1'.trans ((u_w1_a2'.trans (u_w1'.mono u_w1_a2'.size)).mono u_w1_a1'.size)).mono u_w1_a0'.size))
  have S_w1' : w.heap.size + 4 ≤ w1'.heap.size := Nat.le_of_eq s_w1'.symm
  have V_w1' := (Below.refl w.heap.size w).trans (U.mono ((Below.refl w.heap.size w)).size)
  clear u_w1_a0' u_w1_a1' u_w1_a2' u_w1' s_w1_a0' s_w1_a1' s_w1_a2' s_w1' U
  try rw [show w.heap.size + 1 + 1 + 1 = w.heap.size + 3 from rfl]
  try rw [show w.heap.size + 1 + 1 = w.heap.size + 2 from rfl]
  have e_a_0 := B_a.a11_0
  have e_a_1 := B_a.a11_1
  have e_a_2 := B_a.a11_2
  have e_a_3 := B_a.a11_3
  have e_a_4 := B_a.a11_4
  have e_a_5 := B_a.a11_5
  have e_a_6 := B_a.a11_6
  have e_a_7 := B_a.a11_7
  have e_a_8 := B_a.a11_8
  have e_a_9 := B_a.a11_9
  have e_a_10 := B_a.a11_10
  have e_m_0 := B_m.a3_0
  have e_m_1 := B_m.a3_1
  have e_m_2 := B_m.a3_2
  have hRd := (LH.out.below V_w1').drew
  have hMd := (LM.out.below V_w1').below (Below.refl _ _).drew
  go_wp2
  go_region_held3 (fun W => W.cell? ⟨w.heap.size, 0, none⟩ = some (.int .i64 a.P) ∧ W.cell? ⟨w.heap.size, 1, none⟩ = some (.int .i64 a.party) ∧ W.cell? ⟨w.heap.size, 2, none⟩ = some (.int .i64 a.input) ∧ W.cell? ⟨w.heap.size, 3, none⟩ = some (.int .i64 a.mask) ∧ W.cell? ⟨w.heap.size, 4, none⟩ = some (.int .i64 a.delta) ∧ W.cell? ⟨w.heap.size, 5, none⟩ = some (.slice x.sa x.sn x.sc) ∧ W.cell? ⟨w.heap.size, 6, none⟩ = some (.slice x.ka x.kn x.kc) ∧ W.cell? ⟨w.heap.size, 7, none⟩ = some (.int .i64 a.step) ∧ W.cell? ⟨w.heap.size, 8, none⟩ = some (.slice x.ha x.hn x.hc) ∧ W.cell? ⟨w.heap.size, 9, none⟩ = some (.int .i64 a.status) ∧ W.cell? ⟨w.heap.size, 10, none⟩ = some (.int .i64 a.out) ∧ W.cell? ⟨w.heap.size + 1, 0, none⟩ = some (.int .i64 (1 - a.party)) ∧ W.cell? ⟨w.heap.size + 1, 1, none⟩ = some (.int .i64 a.step) ∧ W.cell? ⟨w.heap.size + 1, 2, none⟩ = some (.slice b n c))
    (first | exact ⟨keepC uh (keepC ua (keepC ul (e_a_0))), keepC uh (keepC ua (keepC ul (e_a_1))), keepC uh (keepC ua (keepC ul (e_a_2))), keepC uh (keepC ua (keepC ul (e_a_3))), keepC uh (keepC ua (keepC ul (e_a_4))), keepC uh (keepC ua (keepC ul (e_a_5))), keepC uh (keepC ua (keepC ul (e_a_6))), keepC uh (keepC ua (keepC ul (e_a_7))), keepC uh (keepC ua (keepC ul (e_a_8))), keepC uh (keepC ua (keepC ul (e_a_9))), keepC uh (keepC ua (keepC ul (e_a_10))), keepC uh (keepC ua (keepC ul (e_m_0))), keepC uh (keepC ua (keepC ul (e_m_1))), keepC uh (keepC ua (keepC ul (e_m_2)))⟩ | exact ⟨keepC ua (keepC ul (e_a_0)), keepC ua (keepC ul (e_a_1)), keepC ua (keepC ul (e_a_2)), keepC ua (keepC ul (e_a_3)), keepC ua (keepC ul (e_a_4)), keepC ua (keepC ul (e_a_5)), keepC ua (keepC ul (e_a_6)), keepC ua (keepC ul (e_a_7)), keepC ua (keepC ul (e_a_8)), keepC ua (keepC ul (e_a_9)), keepC ua (keepC ul (e_a_10)), keepC ua (keepC ul (e_m_0)), keepC ua (keepC ul (e_m_1)), keepC ua (keepC ul (e_m_2))⟩ | exact ⟨keepC ul (e_a_0), keepC ul (e_a_1), keepC ul (e_a_2), keepC ul (e_a_3), keepC ul (e_a_4), keepC ul (e_a_5), keepC ul (e_a_6), keepC ul (e_a_7), keepC ul (e_a_8), keepC ul (e_a_9), keepC ul (e_a_10), keepC ul (e_m_0), keepC ul (e_m_1), keepC ul (e_m_2)⟩ | exact ⟨e_a, e_m⟩ | go_keep)
    (first | (go_at_call 88; refine (CL.out _).mono ?_; rintro e wl ⟨rfl, ul⟩) | (go_at_call 100; refine (C4.out _ (hMd.below ul)).mono ?_; rintro e wa ⟨rfl, ua⟩) | (go_at_call 121; refine (C5.out _ ((hRd.below ul).below ua) ((hMd.below ul).below ua)).mono ?_; rintro e wh ⟨rfl, uh⟩))
  have u9 : Below w1'.heap.size w1' wh := (Below.refl _ _).drew.trans (ul.trans ((ua.trans (uh.mono ua.size)).mono ul.size))
  clear hRd hMd ul ua uh
  clear e_a_0 e_a_1 e_a_2 e_a_3 e_a_4 e_a_5 e_a_6 e_a_7 e_a_8 e_a_9 e_a_10 e_m_0 e_m_1 e_m_2
  replace B_a := B_a.below u9
  replace B_m := B_m.below u9
  replace B_r := B_r.below u9
  replace B_b := B_b.below u9
  have S_wh := u9.size
  have V_wh : Below w.heap.size w wh := V_w1'.trans (u9.mono V_w1'.size)
  clear V_w1'
  clear u9
  have e_b := B_b.all11
  have f_b := B_b.frz11
  have e_r := B_r.all11
  have f_r := B_r.frz11
  go_wp2
  clear e_b f_b e_r f_r
  have g_1 : Only [w.heap.size + 3] wh (wh.setCell ⟨w.heap.size + 3, 9, none⟩ (.int .i64 2)) := (Only.refl _ _).setCell _ _ (by simp)
  replace B_b := B_b.set_ 9 (.int .i64 2)
  generalize wh.setCell ⟨w.heap.size + 3, 9, none⟩ (.int .i64 2) = w2_1' at *
  have G := g_1
  clear g_1
  simp only [List.setIfInBounds_toArray, List.set_cons_zero, List.set_cons_succ] at B_b
  have V_w2'_0 := (V_wh).trans (G.below (V_wh).size (fun q hq => by have := (V_wh).size; simp at hq; omega))
  replace B_a := B_a.only G (by first | (simp; done) | (simp; omega))
  replace B_m := B_m.only G (by first | (simp; done) | (simp; omega))
  replace B_r := B_r.only G (by first | (simp; done) | (simp; omega))
  have sG0 := G.size
  clear G
  clear V_wh
  refine Exists.elim (B_r.row11 (.int .i64 a.P) (.int .i64 a.party) (.int .i64 a.input) (.int .i64 a.mask) (.int .i64 a.delta) (.slice x.sa x.sn x.sc) (.slice x.ka x.kn x.kc) (.int .i64 a.step) (.slice x.ha x.hn x.hc) (.int .i64 2) (.int .i64 a.out)) (fun w2' q => ?_)
  rw [q.1]; replace B_r := q.2.1; have G := q.2.2; clear q
  have V_w2' := (V_w2'_0).trans (G.below (V_w2'_0).size (fun q hq => by have := (V_w2'_0).size; simp at hq; omega))
  replace B_a := B_a.only G (by first | (simp; done) | (simp; omega))
  replace B_m := B_m.only G (by first | (simp; done) | (simp; omega))
  replace B_b := B_b.only G (by first | (simp; done) | (simp; omega))
  have sG1 := G.size
  clear G
  clear V_w2'_0
  have S_w2' : wh.heap.size + 0 ≤ w2'.heap.size := by omega
  clear sG0 sG1
  have e_r := B_r.all11
  exact bodyPost_ret (v := .agg #[.int .i64 a.P, .int .i64 a.party, .int .i64 a.input, .int .i64 a.mask, .int .i64 a.delta, .slice x.sa x.sn x.sc, .slice x.ka x.kn x.kc, .int .i64 a.step, .slice x.ha x.hn x.hc, .int .i64 2, .int .i64 a.out]) (by simp [results, Tryd.results91, go_sem, e_r]) rfl ⟨x, rfl, LB.out.below V_w2', V_w2'⟩
end Go.Proofs.YtlmdckcohoddnaaDoor
