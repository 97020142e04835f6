/- Lemmas and walks that the claim's proof rests on, part 17. -/
import Derived.Test.YtlmdckcohoddnaaDoorK16
namespace Go.Proofs.YtlmdckcohoddnaaDoor
open Go.RowKit
def tmP (a : Pl) (fr st : Int) (b : List Int) : Pl := if moB a then takeP a fr st b else zeroPl
theorem tmP_cnt (a : Pl) (fr st : Int) (b : List Int) : cntP (tmP a fr st b).shares (tmP a fr st b).keys (tmP a fr st b).heard ≤ 100 := by
  unfold tmP
  split
  · rename_i h
    unfold moB at h
    simp only [Bool.and_eq_true, decide_eq_true_eq] at h
    exact ((PlN.of h.1).take (run_step h.1 h.2) fr st b).cnt
  · simp [zeroPl, cntP, totL]
set_option maxHeartbeats 8000000 in
set_option maxRecDepth 100000 in
theorem TakeMessage_any (a : Pl) (x : PlX) (fr st : Int) (b : Option Addr) (n c : Nat) (body : List Int) (w : World) (h : PlR w x a.shares a.keys a.heard) (hM : Ints w b n c body) (hT : Tbl w) :
    Calls Tryd.prog 39 #[.agg #[.int .i64 a.P, .int .i64 a.party, .int .i64 a.input, .int .i64 a.mask, .int .i64 a.delta, .slice x.sa x.sn x.sc, .slice x.ka x.kn x.kc, .int .i64 a.step, .slice x.ha x.hn x.hc, .int .i64 a.status, .int .i64 a.out], .agg #[.int .i64 fr, .int .i64 st, .slice b n c]] w fun e w' => ∃ y F, e = .returned (.tuple #[.agg #[.int .i64 (tmP a fr st body).P, .int .i64 (tmP a fr st body).party, .int .i64 (tmP a fr st body).input, .int .i64 (tmP a fr st body).mask, .int .i64 (tmP a fr st body).delta, .slice y.sa y.sn y.sc, .slice y.ka y.kn y.kc, .int .i64 (tmP a fr st body).step, .slice y.ha y.hn y.hc, .int .i64 (tmP a fr st body).status, .int .i64 (tmP a fr st body).out], .bool (moB a)]) ∧ PlO w' w.heap.size y (tmP a fr st body).shares (tmP a fr st body).keys (tmP a fr st body).heard F ∧ Below w.heap.size w w' := by
  have CG := Lib.hid (fun (W : World) (h2 : PlR W x a.shares a.keys a.heard) (hT2 : Tbl W) => IsPlayer_any a x W h2 hT2)
  have CM := Lib.hid (fun (h1 : plB a = true) (h2 : a.status = 0) (W : World) (h3 : PlR W x a.shares a.keys a.heard) (h4 : Ints W b n c body) (h5 : Tbl W) => take_any a x fr st b n c body W h3 h4 h5 (PlN.of h1) (run_step h1 h2))
  have LX := Lib.hid hT
  clear hT
  unfold tmP moB
  generalize plB a = b0 at *
  generalize takeP a fr st body = t at *
  generalize hb1 : decide (a.status = 0) = b1
  have HB1 := Lib.hid hb1
  have LH := Lib.hid h
  have LM := Lib.hid hM
  clear hb1 h hM
  go_enter Tryd.func39, Tryd.ntmps39
  go_wp2_with fail
  have V_w1'_1 : Below w.heap.size w (w.alloc (.cells #[.int .i64 a.P, .int .i64 a.party, .int .i64 a.input, .int .i64 a.mask, .int .i64 a.delta, .slice x.sa x.sn x.sc, .slice x.ka x.kn x.kc, .int .i64 a.step, .slice x.ha x.hn x.hc, .int .i64 a.status, .int .i64 a.out] 31)) := ((Below.refl w.heap.size w)).alloc (by have := ((Below.refl w.heap.size w)).size; first | exact this | (simp at *; omega)) _
  have B_a : Blk (w.alloc (.cells #[.int .i64 a.P, .int .i64 a.party, .int .i64 a.input, .int .i64 a.mask, .int .i64 a.delta, .slice x.sa x.sn x.sc, .slice x.ka x.kn x.kc, .int .i64 a.step, .slice x.ha x.hn x.hc, .int .i64 a.status, .int .i64 a.out] 31)) (w.heap.size) 31 #[.int .i64 a.P, .int .i64 a.party, .int .i64 a.input, .int .i64 a.mask, .int .i64 a.delta, .slice x.sa x.sn x.sc, .slice x.ka x.kn x.kc, .int .i64 a.step, .slice x.ha x.hn x.hc, .int .i64 a.status, .int .i64 a.out] := by exact Blk.new w 31 #[.int .i64 a.P, .int .i64 a.party, .int .i64 a.input, .int .i64 a.mask, .int .i64 a.delta, .slice x.sa x.sn x.sc, .slice x.ka x.kn x.kc, .int .i64 a.step, .slice x.ha x.hn x.hc, .int .i64 a.status, .int .i64 a.out]
  have V_w1'_2 : Below w.heap.size w ((w.alloc (.cells #[.int .i64 a.P, .int .i64 a.party, .int .i64 a.input, .int .i64 a.mask, .int .i64 a.delta, .slice x.sa x.sn x.sc, .slice x.ka x.kn x.kc, .int .i64 a.step, .slice x.ha x.hn x.hc, .int .i64 a.status, .int .i64 a.out] 31)).alloc (.cells #[.int .i64 fr, .int .i64 st, .slice b n c] 44)) := (V_w1'_1).alloc (by have := (V_w1'_1).size; first | exact this | (simp at *; omega)) _
  replace B_a := B_a.alloc (.cells #[.int .i64 fr, .int .i64 st, .slice b n c] 44)
  have B_m : Blk ((w.alloc (.cells #[.int .i64 a.P, .int .i64 a.party, .int .i64 a.input, .int .i64 a.mask, .int .i64 a.delta, .slice x.sa x.sn x.sc, .slice x.ka x.kn x.kc, .int .i64 a.step, .slice x.ha x.hn x.hc, .int .i64 a.status, .int .i64 a.out] 31)).alloc (.cells #[.int .i64 fr, .int .i64 st, .slice b n c] 44)) (w.heap.size + 1) 44 #[.int .i64 fr, .int .i64 st, .slice b n c] := by simpa [World.setCell] using (Blk.new (w.alloc (.cells #[.int .i64 a.P, .int .i64 a.party, .int .i64 a.input, .int .i64 a.mask, .int .i64 a.delta, .slice x.sa x.sn x.sc, .slice x.ka x.kn x.kc, .int .i64 a.step, .slice x.ha x.hn x.hc, .int .i64 a.status, .int .i64 a.out] 31)) 44 #[.int .i64 fr, .int .i64 st, .slice b n c])
  have V_w1'_3 : Below w.heap.size w (((w.alloc (.cells #[.int .i64 a.P, .int .i64 a.party, .int .i64 a.input, .int .i64 a.mask, .int .i64 a.delta, .slice x.sa x.sn x.sc, .slice x.ka x.kn x.kc, .int .i64 a.step, .slice x.ha x.hn x.hc, .int .i64 a.status, .int .i64 a.out] 31)).alloc (.cells #[.int .i64 fr, .int .i64 st, .slice b n c] 44)).alloc (.cells #[.int .i64 0, .int .i64 0, .int .i64 0, .int .i64 0, .int .i64 0, .slice none 0 0, .slice none 0 0, .int .i64 0, .slice none 0 0, .int .i64 0, .int .i64 0] 31)) := (V_w1'_2).alloc (by have := (V_w1'_2).size; first | exact this | (simp at *; omega)) _
  replace B_a := B_a.alloc (.cells #[.int .i64 0, .int .i64 0, .int .i64 0, .int .i64 0, .int .i64 0, .slice none 0 0, .slice none 0 0, .int .i64 0, .slice none 0 0, .int .i64 0, .int .i64 0] 31)
  replace B_m := B_m.alloc (.cells #[.int .i64 0, .int .i64 0, .int .i64 0, .int .i64 0, .int .i64 0, .slice none 0 0, .slice none 0 0, .int .i64 0, .slice none 0 0, .int .i64 0, .int .i64 0] 31)
  have B_r : Blk (((w.alloc (.cells #[.int .i64 a.P, .int .i64 a.party, .int .i64 a.input, .int .i64 a.mask, .int .i64 a.delta, .slice x.sa x.sn x.sc, .slice x.ka x.kn x.kc, .int .i64 a.step, .slice x.ha x.hn x.hc, .int .i64 a.status, .int .i64 a.out] 31)).alloc (.cells #[.int .i64 fr, .int .i64 st, .slice b n c] 44)).alloc (.cells #[.int .i64 0, .int .i64 0, .int .i64 0, .int .i64 0, .int .i64 0, .slice none 0 0, .slice none 0 0, .int .i64 0, .slice none 0 0, .int .i64 0, .int .i64 0] 31)) (w.heap.size + 2) 31 #[.int .i64 0, .int .i64 0, .int .i64 0, .int .i64 0, .int .i64 0, .slice none 0 0, .slice none 0 0, .int .i64 0, .slice none 0 0, .int .i64 0, .int .i64 0] := by simpa [World.setCell] using (Blk.new ((w.alloc (.cells #[.int .i64 a.P, .int .i64 a.party, .int .i64 a.input, .int .i64 a.mask, .int .i64 a.delta, .slice x.sa x.sn x.sc, .slice x.ka x.kn x.kc, .int .i64 a.step, .slice x.ha x.hn x.hc, .int .i64 a.status, .int .i64 a.out] 31)).alloc (.cells #[.int .i64 fr, .int .i64 st, .slice b n c] 44)) 31 #[.int .i64 0, .int .i64 0, .int .i64 0, .int .i64 0, .int .i64 0, .slice none 0 0, .slice none 0 0, .int .i64 0, .slice none 0 0, .int .i64 0, .int .i64 0])
  have S_w1' : w.heap.size + 3 ≤ (((w.alloc (.cells #[.int .i64 a.P, .int .i64 a.party, .int .i64 a.input, .int .i64 a.mask, .int .i64 a.delta, .slice x.sa x.sn x.sc, .slice x.ka x.kn x.kc, .int .i64 a.step, .slice x.ha x.hn x.hc, .int .i64 a.status, .int .i64 a.out] 31)).alloc (.cells #[.int .i64 fr, .int .i64 st, .slice b n c] 44)).alloc (.cells #[.int .i64 0, .int .i64 0, .int .i64 0, .int .i64 0, .int .i64 0, .slice none 0 0, .slice none 0 0, .int .i64 0, .slice none 0 0, .int .i64 0, .int .i64 0] 31)).heap.size := by first | (simp; done) | (simp; omega) | (simp [World.setCell]; done) | (simp [World.setCell]; omega)
  generalize (((w.alloc (.cells #[.int .i64 a.P, .int .i64 a.party, .int .i64 a.input, .int .i64 a.mask, .int .i64 a.delta, .slice x.sa x.sn x.sc, .slice x.ka x.kn x.kc, .int .i64 a.step, .slice x.ha x.hn x.hc, .int .i64 a.status, .int .i64 a.out] 31)).alloc (.cells #[.int .i64 fr, .int .i64 st, .slice b n c] 44)).alloc (.cells #[.int .i64 0, .int .i64 0, .int .i64 0, .int .i64 0, .int .i64 0, .slice none 0 0, .slice none 0 0, .int .i64 0, .slice none 0 0, .int .i64 0, .int .i64 0] 31)) = w1' at *
  clear V_w1'_1 V_w1'_2
  have V_w1' : Below w.heap.size w w1' := V_w1'_3
  clear V_w1'_3
  refine (CG.out _ (LH.out.below V_w1') (LX.out.below V_w1')).mono ?_
  rintro e w2' ⟨rfl, u_w2'⟩
  replace B_a := B_a.below u_w2'
  replace B_m := B_m.below u_w2'
  replace B_r := B_r.below u_w2'
  have S_w2' := u_w2'.size
  have V_w2' : Below w.heap.size w w2' := V_w1'.trans (u_w2'.mono V_w1'.size)
  clear V_w1'
  clear u_w2'
  cases b0
  · skip
    have e_a_0 : w2'.cell? ⟨w.heap.size, 0, none⟩ = some (.int .i64 a.P) := B_a.cell 0
    have e_a_1 : w2'.cell? ⟨w.heap.size, 1, none⟩ = some (.int .i64 a.party) := B_a.cell 1
    have e_a_2 : w2'.cell? ⟨w.heap.size, 2, none⟩ = some (.int .i64 a.input) := B_a.cell 2
    have e_a_3 : w2'.cell? ⟨w.heap.size, 3, none⟩ = some (.int .i64 a.mask) := B_a.cell 3
    have e_a_4 : w2'.cell? ⟨w.heap.size, 4, none⟩ = some (.int .i64 a.delta) := B_a.cell 4
    have e_a_5 : w2'.cell? ⟨w.heap.size, 5, none⟩ = some (.slice x.sa x.sn x.sc) := B_a.cell 5
    have e_a_6 : w2'.cell? ⟨w.heap.size, 6, none⟩ = some (.slice x.ka x.kn x.kc) := B_a.cell 6
    have e_a_7 : w2'.cell? ⟨w.heap.size, 7, none⟩ = some (.int .i64 a.step) := B_a.cell 7
    have e_a_8 : w2'.cell? ⟨w.heap.size, 8, none⟩ = some (.slice x.ha x.hn x.hc) := B_a.cell 8
    have e_a_9 : w2'.cell? ⟨w.heap.size, 9, none⟩ = some (.int .i64 a.status) := B_a.cell 9
    have e_a_10 : w2'.cell? ⟨w.heap.size, 10, none⟩ = some (.int .i64 a.out) := B_a.cell 10
    have e_r_0 : w2'.cell? ⟨w.heap.size + 2, 0, none⟩ = some (.int .i64 0) := B_r.cell 0
    have f_r_0 : w2'.frozen? ⟨w.heap.size + 2, 0, none⟩ = false := B_r.frozen 0
    have e_r_1 : w2'.cell? ⟨w.heap.size + 2, 1, none⟩ = some (.int .i64 0) := B_r.cell 1
    have f_r_1 : w2'.frozen? ⟨w.heap.size + 2, 1, none⟩ = false := B_r.frozen 1
    have e_r_2 : w2'.cell? ⟨w.heap.size + 2, 2, none⟩ = some (.int .i64 0) := B_r.cell 2
    have f_r_2 : w2'.frozen? ⟨w.heap.size + 2, 2, none⟩ = false := B_r.frozen 2
    have e_r_3 : w2'.cell? ⟨w.heap.size + 2, 3, none⟩ = some (.int .i64 0) := B_r.cell 3
    have f_r_3 : w2'.frozen? ⟨w.heap.size + 2, 3, none⟩ = false := B_r.frozen 3
    have e_r_4 : w2'.cell? ⟨w.heap.size + 2, 4, none⟩ = some (.int .i64 0) := B_r.cell 4
    have f_r_4 : w2'.frozen? ⟨w.heap.size + 2, 4, none⟩ = false := B_r.frozen 4
    have e_r_5 : w2'.cell? ⟨w.heap.size + 2, 5, none⟩ = some (.slice none 0 0) := B_r.cell 5
    have f_r_5 : w2'.frozen? ⟨w.heap.size + 2, 5, none⟩ = false := B_r.frozen 5
    have e_r_6 : w2'.cell? ⟨w.heap.size + 2, 6, none⟩ = some (.slice none 0 0) := B_r.cell 6
    have f_r_6 : w2'.frozen? ⟨w.heap.size + 2, 6, none⟩ = false := B_r.frozen 6
    have e_r_7 : w2'.cell? ⟨w.heap.size + 2, 7, none⟩ = some (.int .i64 0) := B_r.cell 7
    have f_r_7 : w2'.frozen? ⟨w.heap.size + 2, 7, none⟩ = false := B_r.frozen 7
    have e_r_8 : w2'.cell? ⟨w.heap.size + 2, 8, none⟩ = some (.slice none 0 0) := B_r.cell 8
    have f_r_8 : w2'.frozen? ⟨w.heap.size + 2, 8, none⟩ = false := B_r.frozen 8
    have e_r_9 : w2'.cell? ⟨w.heap.size + 2, 9, none⟩ = some (.int .i64 0) := B_r.cell 9
    have f_r_9 : w2'.frozen? ⟨w.heap.size + 2, 9, none⟩ = false := B_r.frozen 9
    have e_r_10 : w2'.cell? ⟨w.heap.size + 2, 10, none⟩ = some (.int .i64 0) := B_r.cell 10
    have f_r_10 : w2'.frozen? ⟨w.heap.size + 2, 10, none⟩ = false := B_r.frozen 10
    go_wp2
    clear e_a_0 e_a_1 e_a_2 e_a_3 e_a_4 e_a_5 e_a_6 e_a_7 e_a_8 e_a_9 e_a_10 e_r_0 f_r_0 e_r_1 f_r_1 e_r_2 f_r_2 e_r_3 f_r_3 e_r_4 f_r_4 e_r_5 f_r_5 e_r_6 f_r_6 e_r_7 f_r_7 e_r_8 f_r_8 e_r_9 f_r_9 e_r_10 f_r_10
    have g_1 : Only [w.heap.size + 2] w2' (w2'.setCell ⟨w.heap.size + 2, 0, none⟩ (.int .i64 0)) := (Only.refl _ _).setCell _ _ (by simp)
    replace B_r := B_r.set_ 0 (.int .i64 0)
    generalize w2'.setCell ⟨w.heap.size + 2, 0, none⟩ (.int .i64 0) = w3_1' at *
    have G := g_1
    clear g_1
    have g_2 : Only [w.heap.size + 2] w3_1' (w3_1'.setCell ⟨w.heap.size + 2, 1, none⟩ (.int .i64 0)) := (Only.refl _ _).setCell _ _ (by simp)
    replace B_r := B_r.set_ 1 (.int .i64 0)
    generalize w3_1'.setCell ⟨w.heap.size + 2, 1, none⟩ (.int .i64 0) = w3_2' at *
    replace G := G.trans g_2
    clear g_2
    have g_3 : Only [w.heap.size + 2] w3_2' (w3_2'.setCell ⟨w.heap.size + 2, 2, none⟩ (.int .i64 0)) := (Only.refl _ _).setCell _ _ (by simp)
    replace B_r := B_r.set_ 2 (.int .i64 0)
    generalize w3_2'.setCell ⟨w.heap.size + 2, 2, none⟩ (.int .i64 0) = w3_3' at *
    replace G := G.trans g_3
    clear g_3
    have g_4 : Only [w.heap.size + 2] w3_3' (w3_3'.setCell ⟨w.heap.size + 2, 3, none⟩ (.int .i64 0)) := (Only.refl _ _).setCell _ _ (by simp)
    replace B_r := B_r.set_ 3 (.int .i64 0)
    generalize w3_3'.setCell ⟨w.heap.size + 2, 3, none⟩ (.int .i64 0) = w3_4' at *
    replace G := G.trans g_4
    clear g_4
    have g_5 : Only [w.heap.size + 2] w3_4' (w3_4'.setCell ⟨w.heap.size + 2, 4, none⟩ (.int .i64 0)) := (Only.refl _ _).setCell _ _ (by simp)
    replace B_r := B_r.set_ 4 (.int .i64 0)
    generalize w3_4'.setCell ⟨w.heap.size + 2, 4, none⟩ (.int .i64 0) = w3_5' at *
    replace G := G.trans g_5
    clear g_5
    have g_6 : Only [w.heap.size + 2] w3_5' (w3_5'.setCell ⟨w.heap.size + 2, 5, none⟩ (.slice none 0 0)) := (Only.refl _ _).setCell _ _ (by simp)
    replace B_r := B_r.set_ 5 (.slice none 0 0)
    generalize w3_5'.setCell ⟨w.heap.size + 2, 5, none⟩ (.slice none 0 0) = w3_6' at *
    replace G := G.trans g_6
    clear g_6
    have g_7 : Only [w.heap.size + 2] w3_6' (w3_6'.setCell ⟨w.heap.size + 2, 6, none⟩ (.slice none 0 0)) := (Only.refl _ _).setCell _ _ (by simp)
    replace B_r := B_r.set_ 6 (.slice none 0 0)
    generalize w3_6'.setCell ⟨w.heap.size + 2, 6, none⟩ (.slice none 0 0) = w3_7' at *
    replace G := G.trans g_7
    clear g_7
    have g_8 : Only [w.heap.size + 2] w3_7' (w3_7'.setCell ⟨w.heap.size + 2, 7, none⟩ (.int .i64 0)) := (Only.refl _ _).setCell _ _ (by simp)
    replace B_r := B_r.set_ 7 (.int .i64 0)
    generalize w3_7'.setCell ⟨w.heap.size + 2, 7, none⟩ (.int .i64 0) = w3_8' at *
    replace G := G.trans g_8
    clear g_8
    have g_9 : Only [w.heap.size + 2] w3_8' (w3_8'.setCell ⟨w.heap.size + 2, 8, none⟩ (.slice none 0 0)) := (Only.refl _ _).setCell _ _ (by simp)
    replace B_r := B_r.set_ 8 (.slice none 0 0)
    generalize w3_8'.setCell ⟨w.heap.size + 2, 8, none⟩ (.slice none 0 0) = w3_9' at *
    replace G := G.trans g_9
    clear g_9
    have g_10 : Only [w.heap.size + 2] w3_9' (w3_9'.setCell ⟨w.heap.size + 2, 9, none⟩ (.int .i64 0)) := (Only.refl _ _).setCell _ _ (by simp)
    replace B_r := B_r.set_ 9 (.int .i64 0)
    generalize w3_9'.setCell ⟨w.heap.size + 2, 9, none⟩ (.int .i64 0) = w3_10' at *
    replace G := G.trans g_10
    clear g_10
    have g_11 : Only [w.heap.size + 2] w3_10' (w3_10'.setCell ⟨w.heap.size + 2, 10, none⟩ (.int .i64 0)) := (Only.refl _ _).setCell _ _ (by simp)
    replace B_r := B_r.set_ 10 (.int .i64 0)
    generalize w3_10'.setCell ⟨w.heap.size + 2, 10, none⟩ (.int .i64 0) = w3' at *
    replace G := G.trans g_11
    clear g_11
    simp only [List.setIfInBounds_toArray, List.set_cons_zero, List.set_cons_succ] at B_r
    have V_w3' : Below w.heap.size w w3' := (V_w2').trans (G.below (V_w2').size (fun q hq => by have := (V_w2').size; simp at hq; omega))
    replace B_a := B_a.only G (by first | (simp; done) | (simp; omega))
    replace B_m := B_m.only G (by first | (simp; done) | (simp; omega))
    have sG0 := G.size
    clear G
    clear V_w2'
    have S_w3' : w2'.heap.size + 0 ≤ w3'.heap.size := by omega
    clear sG0
    have e_r_0 : w3'.cell? ⟨w.heap.size + 2, 0, none⟩ = some (.int .i64 0) := B_r.cell 0
    have e_r_1 : w3'.cell? ⟨w.heap.size + 2, 1, none⟩ = some (.int .i64 0) := B_r.cell 1
    have e_r_2 : w3'.cell? ⟨w.heap.size + 2, 2, none⟩ = some (.int .i64 0) := B_r.cell 2
    have e_r_3 : w3'.cell? ⟨w.heap.size + 2, 3, none⟩ = some (.int .i64 0) := B_r.cell 3
    have e_r_4 : w3'.cell? ⟨w.heap.size + 2, 4, none⟩ = some (.int .i64 0) := B_r.cell 4
    have e_r_5 : w3'.cell? ⟨w.heap.size + 2, 5, none⟩ = some (.slice none 0 0) := B_r.cell 5
    have e_r_6 : w3'.cell? ⟨w.heap.size + 2, 6, none⟩ = some (.slice none 0 0) := B_r.cell 6
    have e_r_7 : w3'.cell? ⟨w.heap.size + 2, 7, none⟩ = some (.int .i64 0) := B_r.cell 7
    have e_r_8 : w3'.cell? ⟨w.heap.size + 2, 8, none⟩ = some (.slice none 0 0) := B_r.cell 8
    have e_r_9 : w3'.cell? ⟨w.heap.size + 2, 9, none⟩ = some (.int .i64 0) := B_r.cell 9
    have e_r_10 : w3'.cell? ⟨w.heap.size + 2, 10, none⟩ = some (.int .i64 0) := B_r.cell 10
    exact bodyPost_ret (v := .tuple #[.agg #[.int .i64 0, .int .i64 0, .int .i64 0, .int .i64 0, .int .i64 0, .slice none 0 0, .slice none 0 0, .int .i64 0, .slice none 0 0, .int .i64 0, .int .i64 0], .bool false]) (by simp [results, Tryd.results39, go_sem, e_r_0, e_r_1, e_r_2, e_r_3, e_r_4, e_r_5, e_r_6, e_r_7, e_r_8, e_r_9, e_r_10]) rfl (by first | exact ⟨zeroX, [], rfl, PlO.nil _ _, V_w3'⟩ | exact ⟨zeroX, rfl, ⟨[], PlO.nil _ _⟩, V_w3'⟩)
  cases b1
  · have d1 : ((a.status != 0) : Bool) = true := by simpa using HB1.out
    have e_a_0 : w2'.cell? ⟨w.heap.size, 0, none⟩ = some (.int .i64 a.P) := B_a.cell 0
    have e_a_1 : w2'.cell? ⟨w.heap.size, 1, none⟩ = some (.int .i64 a.party) := B_a.cell 1
    have e_a_2 : w2'.cell? ⟨w.heap.size, 2, none⟩ = some (.int .i64 a.input) := B_a.cell 2
    have e_a_3 : w2'.cell? ⟨w.heap.size, 3, none⟩ = some (.int .i64 a.mask) := B_a.cell 3
    have e_a_4 : w2'.cell? ⟨w.heap.size, 4, none⟩ = some (.int .i64 a.delta) := B_a.cell 4
    have e_a_5 : w2'.cell? ⟨w.heap.size, 5, none⟩ = some (.slice x.sa x.sn x.sc) := B_a.cell 5
    have e_a_6 : w2'.cell? ⟨w.heap.size, 6, none⟩ = some (.slice x.ka x.kn x.kc) := B_a.cell 6
    have e_a_7 : w2'.cell? ⟨w.heap.size, 7, none⟩ = some (.int .i64 a.step) := B_a.cell 7
    have e_a_8 : w2'.cell? ⟨w.heap.size, 8, none⟩ = some (.slice x.ha x.hn x.hc) := B_a.cell 8
    have e_a_9 : w2'.cell? ⟨w.heap.size, 9, none⟩ = some (.int .i64 a.status) := B_a.cell 9
    have e_a_10 : w2'.cell? ⟨w.heap.size, 10, none⟩ = some (.int .i64 a.out) := B_a.cell 10
    have e_r_0 : w2'.cell? ⟨w.heap.size + 2, 0, none⟩ = some (.int .i64 0) := B_r.cell 0
    have f_r_0 : w2'.frozen? ⟨w.heap.size + 2, 0, none⟩ = false := B_r.frozen 0
    have e_r_1 : w2'.cell? ⟨w.heap.size + 2, 1, none⟩ = some (.int .i64 0) := B_r.cell 1
    have f_r_1 : w2'.frozen? ⟨w.heap.size + 2, 1, none⟩ = false := B_r.frozen 1
    have e_r_2 : w2'.cell? ⟨w.heap.size + 2, 2, none⟩ = some (.int .i64 0) := B_r.cell 2
    have f_r_2 : w2'.frozen? ⟨w.heap.size + 2, 2, none⟩ = false := B_r.frozen 2
    have e_r_3 : w2'.cell? ⟨w.heap.size + 2, 3, none⟩ = some (.int .i64 0) := B_r.cell 3
    have f_r_3 : w2'.frozen? ⟨w.heap.size + 2, 3, none⟩ = false := B_r.frozen 3
    have e_r_4 : w2'.cell? ⟨w.heap.size + 2, 4, none⟩ = some (.int .i64 0) := B_r.cell 4
    have f_r_4 : w2'.frozen? ⟨w.heap.size + 2, 4, none⟩ = false := B_r.frozen 4
    have e_r_5 : w2'.cell? ⟨w.heap.size + 2, 5, none⟩ = some (.slice none 0 0) := B_r.cell 5
    have f_r_5 : w2'.frozen? ⟨w.heap.size + 2, 5, none⟩ = false := B_r.frozen 5
    have e_r_6 : w2'.cell? ⟨w.heap.size + 2, 6, none⟩ = some (.slice none 0 0) := B_r.cell 6
    have f_r_6 : w2'.frozen? ⟨w.heap.size + 2, 6, none⟩ = false := B_r.frozen 6
    have e_r_7 : w2'.cell? ⟨w.heap.size + 2, 7, none⟩ = some (.int .i64 0) := B_r.cell 7
    have f_r_7 : w2'.frozen? ⟨w.heap.size + 2, 7, none⟩ = false := B_r.frozen 7
    have e_r_8 : w2'.cell? ⟨w.heap.size + 2, 8, none⟩ = some (.slice none 0 0) := B_r.cell 8
    have f_r_8 : w2'.frozen? ⟨w.heap.size + 2, 8, none⟩ = false := B_r.frozen 8
    have e_r_9 : w2'.cell? ⟨w.heap.size + 2, 9, none⟩ = some (.int .i64 0) := B_r.cell 9
    have f_r_9 : w2'.frozen? ⟨w.heap.size + 2, 9, none⟩ = false := B_r.frozen 9
    have e_r_10 : w2'.cell? ⟨w.heap.size + 2, 10, none⟩ = some (.int .i64 0) := B_r.cell 10
    have f_r_10 : w2'.frozen? ⟨w.heap.size + 2, 10, none⟩ = false := B_r.frozen 10
    go_wp2
    clear e_a_0 e_a_1 e_a_2 e_a_3 e_a_4 e_a_5 e_a_6 e_a_7 e_a_8 e_a_9 e_a_10 e_r_0 f_r_0 e_r_1 f_r_1 e_r_2 f_r_2 e_r_3 f_r_3 e_r_4 f_r_4 e_r_5 f_r_5 e_r_6 f_r_6 e_r_7 f_r_7 e_r_8 f_r_8 e_r_9 f_r_9 e_r_10 f_r_10
    have g_1 : Only [w.heap.size + 2] w2' (w2'.setCell ⟨w.heap.size + 2, 0, none⟩ (.int .i64 0)) := (Only.refl _ _).setCell _ _ (by simp)
    replace B_r := B_r.set_ 0 (.int .i64 0)
    generalize w2'.setCell ⟨w.heap.size + 2, 0, none⟩ (.int .i64 0) = w4_1' at *
    have G := g_1
    clear g_1
    have g_2 : Only [w.heap.size + 2] w4_1' (w4_1'.setCell ⟨w.heap.size + 2, 1, none⟩ (.int .i64 0)) := (Only.refl _ _).setCell _ _ (by simp)
    replace B_r := B_r.set_ 1 (.int .i64 0)
    generalize w4_1'.setCell ⟨w.heap.size + 2, 1, none⟩ (.int .i64 0) = w4_2' at *
    replace G := G.trans g_2
    clear g_2
    have g_3 : Only [w.heap.size + 2] w4_2' (w4_2'.setCell ⟨w.heap.size + 2, 2, none⟩ (.int .i64 0)) := (Only.refl _ _).setCell _ _ (by simp)
    replace B_r := B_r.set_ 2 (.int .i64 0)
    generalize w4_2'.setCell ⟨w.heap.size + 2, 2, none⟩ (.int .i64 0) = w4_3' at *
    replace G := G.trans g_3
    clear g_3
    have g_4 : Only [w.heap.size + 2] w4_3' (w4_3'.setCell ⟨w.heap.size + 2, 3, none⟩ (.int .i64 0)) := (Only.refl _ _).setCell _ _ (by simp)
    replace B_r := B_r.set_ 3 (.int .i64 0)
    generalize w4_3'.setCell ⟨w.heap.size + 2, 3, none⟩ (.int .i64 0) = w4_4' at *
    replace G := G.trans g_4
    clear g_4
    have g_5 : Only [w.heap.size + 2] w4_4' (w4_4'.setCell ⟨w.heap.size + 2, 4, none⟩ (.int .i64 0)) := (Only.refl _ _).setCell _ _ (by simp)
    replace B_r := B_r.set_ 4 (.int .i64 0)
    generalize w4_4'.setCell ⟨w.heap.size + 2, 4, none⟩ (.int .i64 0) = w4_5' at *
    replace G := G.trans g_5
    clear g_5
    have g_6 : Only [w.heap.size + 2] w4_5' (w4_5'.setCell ⟨w.heap.size + 2, 5, none⟩ (.slice none 0 0)) := (Only.refl _ _).setCell _ _ (by simp)
    replace B_r := B_r.set_ 5 (.slice none 0 0)
    generalize w4_5'.setCell ⟨w.heap.size + 2, 5, none⟩ (.slice none 0 0) = w4_6' at *
    replace G := G.trans g_6
    clear g_6
    have g_7 : Only [w.heap.size + 2] w4_6' (w4_6'.setCell ⟨w.heap.size + 2, 6, none⟩ (.slice none 0 0)) := (Only.refl _ _).setCell _ _ (by simp)
    replace B_r := B_r.set_ 6 (.slice none 0 0)
    generalize w4_6'.setCell ⟨w.heap.size + 2, 6, none⟩ (.slice none 0 0) = w4_7' at *
    replace G := G.trans g_7
    clear g_7
    have g_8 : Only [w.heap.size + 2] w4_7' (w4_7'.setCell ⟨w.heap.size + 2, 7, none⟩ (.int .i64 0)) := (Only.refl _ _).setCell _ _ (by simp)
    replace B_r := B_r.set_ 7 (.int .i64 0)
    generalize w4_7'.setCell ⟨w.heap.size + 2, 7, none⟩ (.int .i64 0) = w4_8' at *
    replace G := G.trans g_8
    clear g_8
    have g_9 : Only [w.heap.size + 2] w4_8' (w4_8'.setCell ⟨w.heap.size + 2, 8, none⟩ (.slice none 0 0)) := (Only.refl _ _).setCell _ _ (by simp)
    replace B_r := B_r.set_ 8 (.slice none 0 0)
    generalize w4_8'.setCell ⟨w.heap.size + 2, 8, none⟩ (.slice none 0 0) = w4_9' at *
    replace G := G.trans g_9
    clear g_9
    have g_10 : Only [w.heap.size + 2] w4_9' (w4_9'.setCell ⟨w.heap.size + 2, 9, none⟩ (.int .i64 0)) := (Only.refl _ _).setCell _ _ (by simp)
    replace B_r := B_r.set_ 9 (.int .i64 0)
    generalize w4_9'.setCell ⟨w.heap.size + 2, 9, none⟩ (.int .i64 0) = w4_10' at *
    replace G := G.trans g_10
    clear g_10
    have g_11 : Only [w.heap.size + 2] w4_10' (w4_10'.setCell ⟨w.heap.size + 2, 10, none⟩ (.int .i64 0)) := (Only.refl _ _).setCell _ _ (by simp)
    replace B_r := B_r.set_ 10 (.int .i64 0)
    generalize w4_10'.setCell ⟨w.heap.size + 2, 10, none⟩ (.int .i64 0) = w4' at *
    replace G := G.trans g_11
    clear g_11
    simp only [List.setIfInBounds_toArray, List.set_cons_zero, List.set_cons_succ] at B_r
    have V_w4' : Below w.heap.size w w4' := (V_w2').trans (G.below (V_w2').size (fun q hq => by have := (V_w2').size; simp at hq; omega))
    replace B_a := B_a.only G (by first | (simp; done) | (simp; omega))
    replace B_m := B_m.only G (by first | (simp; done) | (simp; omega))
    have sG0 := G.size
    clear G
    clear V_w2'
    have S_w4' : w2'.heap.size + 0 ≤ w4'.heap.size := by omega
    clear sG0
    have e_r_0 : w4'.cell? ⟨w.heap.size + 2, 0, none⟩ = some (.int .i64 0) := B_r.cell 0
    have e_r_1 : w4'.cell? ⟨w.heap.size + 2, 1, none⟩ = some (.int .i64 0) := B_r.cell 1
    have e_r_2 : w4'.cell? ⟨w.heap.size + 2, 2, none⟩ = some (.int .i64 0) := B_r.cell 2
    have e_r_3 : w4'.cell? ⟨w.heap.size + 2, 3, none⟩ = some (.int .i64 0) := B_r.cell 3
    have e_r_4 : w4'.cell? ⟨w.heap.size + 2, 4, none⟩ = some (.int .i64 0) := B_r.cell 4
    have e_r_5 : w4'.cell? ⟨w.heap.size + 2, 5, none⟩ = some (.slice none 0 0) := B_r.cell 5
    have e_r_6 : w4'.cell? ⟨w.heap.size + 2, 6, none⟩ = some (.slice none 0 0) := B_r.cell 6
    have e_r_7 : w4'.cell? ⟨w.heap.size + 2, 7, none⟩ = some (.int .i64 0) := B_r.cell 7
    have e_r_8 : w4'.cell? ⟨w.heap.size + 2, 8, none⟩ = some (.slice none 0 0) := B_r.cell 8
    have e_r_9 : w4'.cell? ⟨w.heap.size + 2, 9, none⟩ = some (.int .i64 0) := B_r.cell 9
    have e_r_10 : w4'.cell? ⟨w.heap.size + 2, 10, none⟩ = some (.int .i64 0) := B_r.cell 10
    exact bodyPost_ret (v := .tuple #[.agg #[.int .i64 0, .int .i64 0, .int .i64 0, .int .i64 0, .int .i64 0, .slice none 0 0, .slice none 0 0, .int .i64 0, .slice none 0 0, .int .i64 0, .int .i64 0], .bool false]) (by simp [results, Tryd.results39, go_sem, e_r_0, e_r_1, e_r_2, e_r_3, e_r_4, e_r_5, e_r_6, e_r_7, e_r_8, e_r_9, e_r_10]) rfl (by first | exact ⟨zeroX, [], rfl, PlO.nil _ _, V_w4'⟩ | exact ⟨zeroX, rfl, ⟨[], PlO.nil _ _⟩, V_w4'⟩)
  have h0 : a.status = 0 := by simpa using HB1.out
  have d1 : ((a.status != 0) : Bool) = false := by simpa using h0
  replace CM := Lib.hid (CM.out rfl h0)
  clear h0
  have e_a_0 : w2'.cell? ⟨w.heap.size, 0, none⟩ = some (.int .i64 a.P) := B_a.cell 0
  have e_a_1 : w2'.cell? ⟨w.heap.size, 1, none⟩ = some (.int .i64 a.party) := B_a.cell 1
  have e_a_2 : w2'.cell? ⟨w.heap.size, 2, none⟩ = some (.int .i64 a.input) := B_a.cell 2
  have e_a_3 : w2'.cell? ⟨w.heap.size, 3, none⟩ = some (.int .i64 a.mask) := B_a.cell 3
  have e_a_4 : w2'.cell? ⟨w.heap.size, 4, none⟩ = some (.int .i64 a.delta) := B_a.cell 4
  have e_a_5 : w2'.cell? ⟨w.heap.size, 5, none⟩ = some (.slice x.sa x.sn x.sc) := B_a.cell 5
  have e_a_6 : w2'.cell? ⟨w.heap.size, 6, none⟩ = some (.slice x.ka x.kn x.kc) := B_a.cell 6
  have e_a_7 : w2'.cell? ⟨w.heap.size, 7, none⟩ = some (.int .i64 a.step) := B_a.cell 7
  have e_a_8 : w2'.cell? ⟨w.heap.size, 8, none⟩ = some (.slice x.ha x.hn x.hc) := B_a.cell 8
  have e_a_9 : w2'.cell? ⟨w.heap.size, 9, none⟩ = some (.int .i64 a.status) := B_a.cell 9
  have e_a_10 : w2'.cell? ⟨w.heap.size, 10, none⟩ = some (.int .i64 a.out) := B_a.cell 10
  have e_m_0 : w2'.cell? ⟨w.heap.size + 1, 0, none⟩ = some (.int .i64 fr) := B_m.cell 0
  have e_m_1 : w2'.cell? ⟨w.heap.size + 1, 1, none⟩ = some (.int .i64 st) := B_m.cell 1
  have e_m_2 : w2'.cell? ⟨w.heap.size + 1, 2, none⟩ = some (.slice b n c) := B_m.cell 2
  go_wp2_with fail
  clear e_a_0 e_a_1 e_a_2 e_a_3 e_a_4 e_a_5 e_a_6 e_a_7 e_a_8 e_a_9 e_a_10 e_m_0 e_m_1 e_m_2
  refine (CM.out _ (LH.out.below V_w2') (LM.out.below V_w2') (LX.out.below V_w2')).mono ?_
  rintro e w5' ⟨y, F, rfl, o, u_w5'⟩
  replace B_a := B_a.below u_w5'
  replace B_m := B_m.below u_w5'
  replace B_r := B_r.below u_w5'
  have S_w5' := u_w5'.size
  have V_w5' : Below w.heap.size w w5' := V_w2'.trans (u_w5'.mono V_w2'.size)
  clear V_w2'
  clear u_w5'
  replace o := o.lower (b' := w.heap.size + 3) (by omega)
  have Q_o := Lib.hid o.feet
  have e_r_0 : w5'.cell? ⟨w.heap.size + 2, 0, none⟩ = some (.int .i64 0) := B_r.cell 0
  have f_r_0 : w5'.frozen? ⟨w.heap.size + 2, 0, none⟩ = false := B_r.frozen 0
  have e_r_1 : w5'.cell? ⟨w.heap.size + 2, 1, none⟩ = some (.int .i64 0) := B_r.cell 1
  have f_r_1 : w5'.frozen? ⟨w.heap.size + 2, 1, none⟩ = false := B_r.frozen 1
  have e_r_2 : w5'.cell? ⟨w.heap.size + 2, 2, none⟩ = some (.int .i64 0) := B_r.cell 2
  have f_r_2 : w5'.frozen? ⟨w.heap.size + 2, 2, none⟩ = false := B_r.frozen 2
  have e_r_3 : w5'.cell? ⟨w.heap.size + 2, 3, none⟩ = some (.int .i64 0) := B_r.cell 3
  have f_r_3 : w5'.frozen? ⟨w.heap.size + 2, 3, none⟩ = false := B_r.frozen 3
  have e_r_4 : w5'.cell? ⟨w.heap.size + 2, 4, none⟩ = some (.int .i64 0) := B_r.cell 4
  have f_r_4 : w5'.frozen? ⟨w.heap.size + 2, 4, none⟩ = false := B_r.frozen 4
  have e_r_5 : w5'.cell? ⟨w.heap.size + 2, 5, none⟩ = some (.slice none 0 0) := B_r.cell 5
  have f_r_5 : w5'.frozen? ⟨w.heap.size + 2, 5, none⟩ = false := B_r.frozen 5
  have e_r_6 : w5'.cell? ⟨w.heap.size + 2, 6, none⟩ = some (.slice none 0 0) := B_r.cell 6
  have f_r_6 : w5'.frozen? ⟨w.heap.size + 2, 6, none⟩ = false := B_r.frozen 6
  have e_r_7 : w5'.cell? ⟨w.heap.size + 2, 7, none⟩ = some (.int .i64 0) := B_r.cell 7
  have f_r_7 : w5'.frozen? ⟨w.heap.size + 2, 7, none⟩ = false := B_r.frozen 7
  have e_r_8 : w5'.cell? ⟨w.heap.size + 2, 8, none⟩ = some (.slice none 0 0) := B_r.cell 8
  have f_r_8 : w5'.frozen? ⟨w.heap.size + 2, 8, none⟩ = false := B_r.frozen 8
  have e_r_9 : w5'.cell? ⟨w.heap.size + 2, 9, none⟩ = some (.int .i64 0) := B_r.cell 9
  have f_r_9 : w5'.frozen? ⟨w.heap.size + 2, 9, none⟩ = false := B_r.frozen 9
  have e_r_10 : w5'.cell? ⟨w.heap.size + 2, 10, none⟩ = some (.int .i64 0) := B_r.cell 10
  have f_r_10 : w5'.frozen? ⟨w.heap.size + 2, 10, none⟩ = false := B_r.frozen 10
  go_wp2
  clear e_r_0 f_r_0 e_r_1 f_r_1 e_r_2 f_r_2 e_r_3 f_r_3 e_r_4 f_r_4 e_r_5 f_r_5 e_r_6 f_r_6 e_r_7 f_r_7 e_r_8 f_r_8 e_r_9 f_r_9 e_r_10 f_r_10
  have g_1 : Only [w.heap.size + 2] w5' (w5'.setCell ⟨w.heap.size + 2, 0, none⟩ (.int .i64 t.P)) := (Only.refl _ _).setCell _ _ (by simp)
  replace B_r := B_r.set_ 0 (.int .i64 t.P)
  generalize w5'.setCell ⟨w.heap.size + 2, 0, none⟩ (.int .i64 t.P) = w6_1' at *
  have G := g_1
  clear g_1
  have g_2 : Only [w.heap.size + 2] w6_1' (w6_1'.setCell ⟨w.heap.size + 2, 1, none⟩ (.int .i64 t.party)) := (Only.refl _ _).setCell _ _ (by simp)
  replace B_r := B_r.set_ 1 (.int .i64 t.party)
  generalize w6_1'.setCell ⟨w.heap.size + 2, 1, none⟩ (.int .i64 t.party) = w6_2' at *
  replace G := G.trans g_2
  clear g_2
  have g_3 : Only [w.heap.size + 2] w6_2' (w6_2'.setCell ⟨w.heap.size + 2, 2, none⟩ (.int .i64 t.input)) := (Only.refl _ _).setCell _ _ (by simp)
  replace B_r := B_r.set_ 2 (.int .i64 t.input)
  generalize w6_2'.setCell ⟨w.heap.size + 2, 2, none⟩ (.int .i64 t.input) = w6_3' at *
  replace G := G.trans g_3
  clear g_3
  have g_4 : Only [w.heap.size + 2] w6_3' (w6_3'.setCell ⟨w.heap.size + 2, 3, none⟩ (.int .i64 t.mask)) := (Only.refl _ _).setCell _ _ (by simp)
  replace B_r := B_r.set_ 3 (.int .i64 t.mask)
  generalize w6_3'.setCell ⟨w.heap.size + 2, 3, none⟩ (.int .i64 t.mask) = w6_4' at *
  replace G := G.trans g_4
  clear g_4
  have g_5 : Only [w.heap.size + 2] w6_4' (w6_4'.setCell ⟨w.heap.size + 2, 4, none⟩ (.int .i64 t.delta)) := (Only.refl _ _).setCell _ _ (by simp)
  replace B_r := B_r.set_ 4 (.int .i64 t.delta)
  generalize w6_4'.setCell ⟨w.heap.size + 2, 4, none⟩ (.int .i64 t.delta) = w6_5' at *
  replace G := G.trans g_5
  clear g_5
  have g_6 : Only [w.heap.size + 2] w6_5' (w6_5'.setCell ⟨w.heap.size + 2, 5, none⟩ (.slice y.sa y.sn y.sc)) := (Only.refl _ _).setCell _ _ (by simp)
  replace B_r := B_r.set_ 5 (.slice y.sa y.sn y.sc)
  generalize w6_5'.setCell ⟨w.heap.size + 2, 5, none⟩ (.slice y.sa y.sn y.sc) = w6_6' at *
  replace G := G.trans g_6
  clear g_6
  have g_7 : Only [w.heap.size + 2] w6_6' (w6_6'.setCell ⟨w.heap.size + 2, 6, none⟩ (.slice y.ka y.kn y.kc)) := (Only.refl _ _).setCell _ _ (by simp)
  replace B_r := B_r.set_ 6 (.slice y.ka y.kn y.kc)
  generalize w6_6'.setCell ⟨w.heap.size + 2, 6, none⟩ (.slice y.ka y.kn y.kc) = w6_7' at *
  replace G := G.trans g_7
  clear g_7
  have g_8 : Only [w.heap.size + 2] w6_7' (w6_7'.setCell ⟨w.heap.size + 2, 7, none⟩ (.int .i64 t.step)) := (Only.refl _ _).setCell _ _ (by simp)
  replace B_r := B_r.set_ 7 (.int .i64 t.step)
  generalize w6_7'.setCell ⟨w.heap.size + 2, 7, none⟩ (.int .i64 t.step) = w6_8' at *
  replace G := G.trans g_8
  clear g_8
  have g_9 : Only [w.heap.size + 2] w6_8' (w6_8'.setCell ⟨w.heap.size + 2, 8, none⟩ (.slice y.ha y.hn y.hc)) := (Only.refl _ _).setCell _ _ (by simp)
  replace B_r := B_r.set_ 8 (.slice y.ha y.hn y.hc)
  generalize w6_8'.setCell ⟨w.heap.size + 2, 8, none⟩ (.slice y.ha y.hn y.hc) = w6_9' at *
  replace G := G.trans g_9
  clear g_9
  have g_10 : Only [w.heap.size + 2] w6_9' (w6_9'.setCell ⟨w.heap.size + 2, 9, none⟩ (.int .i64 t.status)) := (Only.refl _ _).setCell _ _ (by simp)
  replace B_r := B_r.set_ 9 (.int .i64 t.status)
  generalize w6_9'.setCell ⟨w.heap.size + 2, 9, none⟩ (.int .i64 t.status) = w6_10' at *
  replace G := G.trans g_10
  clear g_10
  have g_11 : Only [w.heap.size + 2] w6_10' (w6_10'.setCell ⟨w.heap.size + 2, 10, none⟩ (.int .i64 t.out)) := (Only.refl _ _).setCell _ _ (by simp)
  replace B_r := B_r.set_ 10 (.int .i64 t.out)
  generalize w6_10'.setCell ⟨w.heap.size + 2, 10, none⟩ (.int .i64 t.out) = w6' at *
  replace G := G.trans g_11
  clear g_11
  simp only [List.setIfInBounds_toArray, List.set_cons_zero, List.set_cons_succ] at B_r
  have V_w6' : Below w.heap.size w w6' := (V_w5').trans (G.below (V_w5').size (fun q hq => by have := (V_w5').size; simp at hq; omega))
  replace B_a := B_a.only G (by first | (simp; done) | (simp; omega))
  replace B_m := B_m.only G (by first | (simp; done) | (simp; omega))
  replace o := o.only G (fun q hq hq' => by have := Q_o.out q hq; simp at hq'; omega)
  have sG0 := G.size
  clear G
  clear V_w5'
  have S_w6' : w5'.heap.size + 0 ≤ w6'.heap.size := by omega
  clear sG0
  have e_r_0 : w6'.cell? ⟨w.heap.size + 2, 0, none⟩ = some (.int .i64 t.P) := B_r.cell 0
  have e_r_1 : w6'.cell? ⟨w.heap.size + 2, 1, none⟩ = some (.int .i64 t.party) := B_r.cell 1
  have e_r_2 : w6'.cell? ⟨w.heap.size + 2, 2, none⟩ = some (.int .i64 t.input) := B_r.cell 2
  have e_r_3 : w6'.cell? ⟨w.heap.size + 2, 3, none⟩ = some (.int .i64 t.mask) := B_r.cell 3
  have e_r_4 : w6'.cell? ⟨w.heap.size + 2, 4, none⟩ = some (.int .i64 t.delta) := B_r.cell 4
  have e_r_5 : w6'.cell? ⟨w.heap.size + 2, 5, none⟩ = some (.slice y.sa y.sn y.sc) := B_r.cell 5
  have e_r_6 : w6'.cell? ⟨w.heap.size + 2, 6, none⟩ = some (.slice y.ka y.kn y.kc) := B_r.cell 6
  have e_r_7 : w6'.cell? ⟨w.heap.size + 2, 7, none⟩ = some (.int .i64 t.step) := B_r.cell 7
  have e_r_8 : w6'.cell? ⟨w.heap.size + 2, 8, none⟩ = some (.slice y.ha y.hn y.hc) := B_r.cell 8
  have e_r_9 : w6'.cell? ⟨w.heap.size + 2, 9, none⟩ = some (.int .i64 t.status) := B_r.cell 9
  have e_r_10 : w6'.cell? ⟨w.heap.size + 2, 10, none⟩ = some (.int .i64 t.out) := B_r.cell 10
  exact bodyPost_ret (v := .tuple #[.agg #[.int .i64 t.P, .int .i64 t.party, .int .i64 t.input, .int .i64 t.mask, .int .i64 t.delta, .slice y.sa y.sn y.sc, .slice y.ka y.kn y.kc, .int .i64 t.step, .slice y.ha y.hn y.hc, .int .i64 t.status, .int .i64 t.out], .bool true]) (by simp [results, Tryd.results39, go_sem, e_r_0, e_r_1, e_r_2, e_r_3, e_r_4, e_r_5, e_r_6, e_r_7, e_r_8, e_r_9, e_r_10]) rfl (by first | exact ⟨y, F, rfl, o.lower (by omega), V_w6'⟩ | exact ⟨y, rfl, ⟨F, o.lower (by omega)⟩, V_w6'⟩)
set_option maxHeartbeats 8000000 in
set_option maxRecDepth 100000 in
theorem spec_TakeMessage_any (a : Pl) (x : PlX) (fr st : Int) (b : Option Addr) (n c : Nat) (body : List Int) (w : World) (h : PlR w x a.shares a.keys a.heard) (hM : Ints w b n c body) (_hT : Tbl w) :
    Calls Tryd.prog 37 #[.agg #[.int .i64 a.P, .int .i64 a.party, .int .i64 a.input, .int .i64 a.mask, .int .i64 a.delta, .slice x.sa x.sn x.sc, .slice x.ka x.kn x.kc, .int .i64 a.step, .slice x.ha x.hn x.hc, .int .i64 a.status, .int .i64 a.out], .agg #[.int .i64 fr, .int .i64 st, .slice b n c]] w fun e w' => ∃ y F, e = .returned (.tuple #[.agg #[.int .i64 (tmP a fr st body).P, .int .i64 (tmP a fr st body).party, .int .i64 (tmP a fr st body).input, .int .i64 (tmP a fr st body).mask, .int .i64 (tmP a fr st body).delta, .slice y.sa y.sn y.sc, .slice y.ka y.kn y.kc, .int .i64 (tmP a fr st body).step, .slice y.ha y.hn y.hc, .int .i64 (tmP a fr st body).status, .int .i64 (tmP a fr st body).out], .bool (moB a)]) ∧ PlO w' w.heap.size y (tmP a fr st body).shares (tmP a fr st body).keys (tmP a fr st body).heard F ∧ Below w.heap.size w w' := by
  have CG := Lib.hid (fun (W : World) (h2 : PlR W x a.shares a.keys a.heard) => ptGood_any a x W h2)
  have CM := Lib.hid (fun (h1 : plB a = true) (h2 : a.status = 0) (W : World) (h3 : PlR W x a.shares a.keys a.heard) (h4 : Ints W b n c body) => ptTake_any a x fr st b n c body W h3 h4 (PlN.of h1) (run_step h1 h2))
  have CO := Lib.hid (fun (h1 : plB a = true) (h2 : a.status = 0) (W : World) (y : PlX) (h3 : PlR W y (takeP a fr st body).shares (takeP a fr st body).keys (takeP a fr st body).heard) => ptOwn_any (takeP a fr st body) y W h3 ((PlN.of h1).take (run_step h1 h2) fr st body))
  unfold tmP moB
  generalize plB a = b0 at *
  generalize takeP a fr st body = t at *
  generalize hb1 : decide (a.status = 0) = b1
  have HB1 := Lib.hid hb1
  have LH := Lib.hid h
  have LM := Lib.hid hM
  clear hb1 h hM
  go_enter Tryd.func37, Tryd.ntmps37
  go_wp2_with fail
  have V_w1'_1 : Below w.heap.size w (w.alloc (.cells #[.int .i64 a.P, .int .i64 a.party, .int .i64 a.input, .int .i64 a.mask, .int .i64 a.delta, .slice x.sa x.sn x.sc, .slice x.ka x.kn x.kc, .int .i64 a.step, .slice x.ha x.hn x.hc, .int .i64 a.status, .int .i64 a.out] 31)) := ((Below.refl w.heap.size w)).alloc (by have := ((Below.refl w.heap.size w)).size; first | exact this | (simp at *; omega)) _
  have B_a : Blk (w.alloc (.cells #[.int .i64 a.P, .int .i64 a.party, .int .i64 a.input, .int .i64 a.mask, .int .i64 a.delta, .slice x.sa x.sn x.sc, .slice x.ka x.kn x.kc, .int .i64 a.step, .slice x.ha x.hn x.hc, .int .i64 a.status, .int .i64 a.out] 31)) (w.heap.size) 31 #[.int .i64 a.P, .int .i64 a.party, .int .i64 a.input, .int .i64 a.mask, .int .i64 a.delta, .slice x.sa x.sn x.sc, .slice x.ka x.kn x.kc, .int .i64 a.step, .slice x.ha x.hn x.hc, .int .i64 a.status, .int .i64 a.out] := by exact Blk.new w 31 #[.int .i64 a.P, .int .i64 a.party, .int .i64 a.input, .int .i64 a.mask, .int .i64 a.delta, .slice x.sa x.sn x.sc, .slice x.ka x.kn x.kc, .int .i64 a.step, .slice x.ha x.hn x.hc, .int .i64 a.status, .int .i64 a.out]
  have V_w1'_2 : Below w.heap.size w ((w.alloc (.cells #[.int .i64 a.P, .int .i64 a.party, .int .i64 a.input, .int .i64 a.mask, .int .i64 a.delta, .slice x.sa x.sn x.sc, .slice x.ka x.kn x.kc, .int .i64 a.step, .slice x.ha x.hn x.hc, .int .i64 a.status, .int .i64 a.out] 31)).alloc (.cells #[.int .i64 fr, .int .i64 st, .slice b n c] 44)) := (V_w1'_1).alloc (by have := (V_w1'_1).size; first | exact this | (simp at *; omega)) _
  replace B_a := B_a.alloc (.cells #[.int .i64 fr, .int .i64 st, .slice b n c] 44)
  have B_m : Blk ((w.alloc (.cells #[.int .i64 a.P, .int .i64 a.party, .int .i64 a.input, .int .i64 a.mask, .int .i64 a.delta, .slice x.sa x.sn x.sc, .slice x.ka x.kn x.kc, .int .i64 a.step, .slice x.ha x.hn x.hc, .int .i64 a.status, .int .i64 a.out] 31)).alloc (.cells #[.int .i64 fr, .int .i64 st, .slice b n c] 44)) (w.heap.size + 1) 44 #[.int .i64 fr, .int .i64 st, .slice b n c] := by simpa [World.setCell] using (Blk.new (w.alloc (.cells #[.int .i64 a.P, .int .i64 a.party, .int .i64 a.input, .int .i64 a.mask, .int .i64 a.delta, .slice x.sa x.sn x.sc, .slice x.ka x.kn x.kc, .int .i64 a.step, .slice x.ha x.hn x.hc, .int .i64 a.status, .int .i64 a.out] 31)) 44 #[.int .i64 fr, .int .i64 st, .slice b n c])
  have V_w1'_3 : Below w.heap.size w (((w.alloc (.cells #[.int .i64 a.P, .int .i64 a.party, .int .i64 a.input, .int .i64 a.mask, .int .i64 a.delta, .slice x.sa x.sn x.sc, .slice x.ka x.kn x.kc, .int .i64 a.step, .slice x.ha x.hn x.hc, .int .i64 a.status, .int .i64 a.out] 31)).alloc (.cells #[.int .i64 fr, .int .i64 st, .slice b n c] 44)).alloc (.cells #[.int .i64 0, .int .i64 0, .int .i64 0, .int .i64 0, .int .i64 0, .slice none 0 0, .slice none 0 0, .int .i64 0, .slice none 0 0, .int .i64 0, .int .i64 0] 31)) := (V_w1'_2).alloc (by have := (V_w1'_2).size; first | exact this | (simp at *; omega)) _
  replace B_a := B_a.alloc (.cells #[.int .i64 0, .int .i64 0, .int .i64 0, .int .i64 0, .int .i64 0, .slice none 0 0, .slice none 0 0, .int .i64 0, .slice none 0 0, .int .i64 0, .int .i64 0] 31)
  replace B_m := B_m.alloc (.cells #[.int .i64 0, .int .i64 0, .int .i64 0, .int .i64 0, .int .i64 0, .slice none 0 0, .slice none 0 0, .int .i64 0, .slice none 0 0, .int .i64 0, .int .i64 0] 31)
  have B_r : Blk (((w.alloc (.cells #[.int .i64 a.P, .int .i64 a.party, .int .i64 a.input, .int .i64 a.mask, .int .i64 a.delta, .slice x.sa x.sn x.sc, .slice x.ka x.kn x.kc, .int .i64 a.step, .slice x.ha x.hn x.hc, .int .i64 a.status, .int .i64 a.out] 31)).alloc (.cells #[.int .i64 fr, .int .i64 st, .slice b n c] 44)).alloc (.cells #[.int .i64 0, .int .i64 0, .int .i64 0, .int .i64 0, .int .i64 0, .slice none 0 0, .slice none 0 0, .int .i64 0, .slice none 0 0, .int .i64 0, .int .i64 0] 31)) (w.heap.size + 2) 31 #[.int .i64 0, .int .i64 0, .int .i64 0, .int .i64 0, .int .i64 0, .slice none 0 0, .slice none 0 0, .int .i64 0, .slice none 0 0, .int .i64 0, .int .i64 0] := by simpa [World.setCell] using (Blk.new ((w.alloc (.cells #[.int .i64 a.P, .int .i64 a.party, .int .i64 a.input, .int .i64 a.mask, .int .i64 a.delta, .slice x.sa x.sn x.sc, .slice x.ka x.kn x.kc, .int .i64 a.step, .slice x.ha x.hn x.hc, .int .i64 a.status, .int .i64 a.out] 31)).alloc (.cells #[.int .i64 fr, .int .i64 st, .slice b n c] 44)) 31 #[.int .i64 0, .int .i64 0, .int .i64 0, .int .i64 0, .int .i64 0, .slice none 0 0, .slice none 0 0, .int .i64 0, .slice none 0 0, .int .i64 0, .int .i64 0])
  have S_w1' : w.heap.size + 3 ≤ (((w.alloc (.cells #[.int .i64 a.P, .int .i64 a.party, .int .i64 a.input, .int .i64 a.mask, .int .i64 a.delta, .slice x.sa x.sn x.sc, .slice x.ka x.kn x.kc, .int .i64 a.step, .slice x.ha x.hn x.hc, .int .i64 a.status, .int .i64 a.out] 31)).alloc (.cells #[.int .i64 fr, .int .i64 st, .slice b n c] 44)).alloc (.cells #[.int .i64 0, .int .i64 0, .int .i64 0, .int .i64 0, .int .i64 0, .slice none 0 0, .slice none 0 0, .int .i64 0, .slice none 0 0, .int .i64 0, .int .i64 0] 31)).heap.size := by first | (simp; done) | (simp; omega) | (simp [World.setCell]; done) | (simp [World.setCell]; omega)
  generalize (((w.alloc (.cells #[.int .i64 a.P, .int .i64 a.party, .int .i64 a.input, .int .i64 a.mask, .int .i64 a.delta, .slice x.sa x.sn x.sc, .slice x.ka x.kn x.kc, .int .i64 a.step, .slice x.ha x.hn x.hc, .int .i64 a.status, .int .i64 a.out] 31)).alloc (.cells #[.int .i64 fr, .int .i64 st, .slice b n c] 44)).alloc (.cells #[.int .i64 0, .int .i64 0, .int .i64 0, .int .i64 0, .int .i64 0, .slice none 0 0, .slice none 0 0, .int .i64 0, .slice none 0 0, .int .i64 0, .int .i64 0] 31)) = w1' at *
  clear V_w1'_1 V_w1'_2
  have V_w1' : Below w.heap.size w w1' := V_w1'_3
  clear V_w1'_3
  refine (CG.out _ (LH.out.below V_w1')).mono ?_
  rintro e w2' ⟨rfl, u_w2'⟩
  replace B_a := B_a.below u_w2'
  replace B_m := B_m.below u_w2'
  replace B_r := B_r.below u_w2'
  have S_w2' := u_w2'.size
  have V_w2' : Below w.heap.size w w2' := V_w1'.trans (u_w2'.mono V_w1'.size)
  clear V_w1'
  clear u_w2'
  cases b0
  · skip
    have e_a_0 : w2'.cell? ⟨w.heap.size, 0, none⟩ = some (.int .i64 a.P) := B_a.cell 0
    have e_a_1 : w2'.cell? ⟨w.heap.size, 1, none⟩ = some (.int .i64 a.party) := B_a.cell 1
    have e_a_2 : w2'.cell? ⟨w.heap.size, 2, none⟩ = some (.int .i64 a.input) := B_a.cell 2
    have e_a_3 : w2'.cell? ⟨w.heap.size, 3, none⟩ = some (.int .i64 a.mask) := B_a.cell 3
    have e_a_4 : w2'.cell? ⟨w.heap.size, 4, none⟩ = some (.int .i64 a.delta) := B_a.cell 4
    have e_a_5 : w2'.cell? ⟨w.heap.size, 5, none⟩ = some (.slice x.sa x.sn x.sc) := B_a.cell 5
    have e_a_6 : w2'.cell? ⟨w.heap.size, 6, none⟩ = some (.slice x.ka x.kn x.kc) := B_a.cell 6
    have e_a_7 : w2'.cell? ⟨w.heap.size, 7, none⟩ = some (.int .i64 a.step) := B_a.cell 7
    have e_a_8 : w2'.cell? ⟨w.heap.size, 8, none⟩ = some (.slice x.ha x.hn x.hc) := B_a.cell 8
    have e_a_9 : w2'.cell? ⟨w.heap.size, 9, none⟩ = some (.int .i64 a.status) := B_a.cell 9
    have e_a_10 : w2'.cell? ⟨w.heap.size, 10, none⟩ = some (.int .i64 a.out) := B_a.cell 10
    have e_r_0 : w2'.cell? ⟨w.heap.size + 2, 0, none⟩ = some (.int .i64 0) := B_r.cell 0
    have f_r_0 : w2'.frozen? ⟨w.heap.size + 2, 0, none⟩ = false := B_r.frozen 0
    have e_r_1 : w2'.cell? ⟨w.heap.size + 2, 1, none⟩ = some (.int .i64 0) := B_r.cell 1
    have f_r_1 : w2'.frozen? ⟨w.heap.size + 2, 1, none⟩ = false := B_r.frozen 1
    have e_r_2 : w2'.cell? ⟨w.heap.size + 2, 2, none⟩ = some (.int .i64 0) := B_r.cell 2
    have f_r_2 : w2'.frozen? ⟨w.heap.size + 2, 2, none⟩ = false := B_r.frozen 2
    have e_r_3 : w2'.cell? ⟨w.heap.size + 2, 3, none⟩ = some (.int .i64 0) := B_r.cell 3
    have f_r_3 : w2'.frozen? ⟨w.heap.size + 2, 3, none⟩ = false := B_r.frozen 3
    have e_r_4 : w2'.cell? ⟨w.heap.size + 2, 4, none⟩ = some (.int .i64 0) := B_r.cell 4
    have f_r_4 : w2'.frozen? ⟨w.heap.size + 2, 4, none⟩ = false := B_r.frozen 4
    have e_r_5 : w2'.cell? ⟨w.heap.size + 2, 5, none⟩ = some (.slice none 0 0) := B_r.cell 5
    have f_r_5 : w2'.frozen? ⟨w.heap.size + 2, 5, none⟩ = false := B_r.frozen 5
    have e_r_6 : w2'.cell? ⟨w.heap.size + 2, 6, none⟩ = some (.slice none 0 0) := B_r.cell 6
    have f_r_6 : w2'.frozen? ⟨w.heap.size + 2, 6, none⟩ = false := B_r.frozen 6
    have e_r_7 : w2'.cell? ⟨w.heap.size + 2, 7, none⟩ = some (.int .i64 0) := B_r.cell 7
    have f_r_7 : w2'.frozen? ⟨w.heap.size + 2, 7, none⟩ = false := B_r.frozen 7
    have e_r_8 : w2'.cell? ⟨w.heap.size + 2, 8, none⟩ = some (.slice none 0 0) := B_r.cell 8
    have f_r_8 : w2'.frozen? ⟨w.heap.size + 2, 8, none⟩ = false := B_r.frozen 8
    have e_r_9 : w2'.cell? ⟨w.heap.size + 2, 9, none⟩ = some (.int .i64 0) := B_r.cell 9
    have f_r_9 : w2'.frozen? ⟨w.heap.size + 2, 9, none⟩ = false := B_r.frozen 9
    have e_r_10 : w2'.cell? ⟨w.heap.size + 2, 10, none⟩ = some (.int .i64 0) := B_r.cell 10
    have f_r_10 : w2'.frozen? ⟨w.heap.size + 2, 10, none⟩ = false := B_r.frozen 10
    go_wp2
    clear e_a_0 e_a_1 e_a_2 e_a_3 e_a_4 e_a_5 e_a_6 e_a_7 e_a_8 e_a_9 e_a_10 e_r_0 f_r_0 e_r_1 f_r_1 e_r_2 f_r_2 e_r_3 f_r_3 e_r_4 f_r_4 e_r_5 f_r_5 e_r_6 f_r_6 e_r_7 f_r_7 e_r_8 f_r_8 e_r_9 f_r_9 e_r_10 f_r_10
    have g_1 : Only [w.heap.size + 2] w2' (w2'.setCell ⟨w.heap.size + 2, 0, none⟩ (.int .i64 0)) := (Only.refl _ _).setCell _ _ (by simp)
    replace B_r := B_r.set_ 0 (.int .i64 0)
    generalize w2'.setCell ⟨w.heap.size + 2, 0, none⟩ (.int .i64 0) = w3_1' at *
    have G := g_1
    clear g_1
    have g_2 : Only [w.heap.size + 2] w3_1' (w3_1'.setCell ⟨w.heap.size + 2, 1, none⟩ (.int .i64 0)) := (Only.refl _ _).setCell _ _ (by simp)
    replace B_r := B_r.set_ 1 (.int .i64 0)
    generalize w3_1'.setCell ⟨w.heap.size + 2, 1, none⟩ (.int .i64 0) = w3_2' at *
    replace G := G.trans g_2
    clear g_2
    have g_3 : Only [w.heap.size + 2] w3_2' (w3_2'.setCell ⟨w.heap.size + 2, 2, none⟩ (.int .i64 0)) := (Only.refl _ _).setCell _ _ (by simp)
    replace B_r := B_r.set_ 2 (.int .i64 0)
    generalize w3_2'.setCell ⟨w.heap.size + 2, 2, none⟩ (.int .i64 0) = w3_3' at *
    replace G := G.trans g_3
    clear g_3
    have g_4 : Only [w.heap.size + 2] w3_3' (w3_3'.setCell ⟨w.heap.size + 2, 3, none⟩ (.int .i64 0)) := (Only.refl _ _).setCell _ _ (by simp)
    replace B_r := B_r.set_ 3 (.int .i64 0)
    generalize w3_3'.setCell ⟨w.heap.size + 2, 3, none⟩ (.int .i64 0) = w3_4' at *
    replace G := G.trans g_4
    clear g_4
    have g_5 : Only [w.heap.size + 2] w3_4' (w3_4'.setCell ⟨w.heap.size + 2, 4, none⟩ (.int .i64 0)) := (Only.refl _ _).setCell _ _ (by simp)
    replace B_r := B_r.set_ 4 (.int .i64 0)
    generalize w3_4'.setCell ⟨w.heap.size + 2, 4, none⟩ (.int .i64 0) = w3_5' at *
    replace G := G.trans g_5
    clear g_5
    have g_6 : Only [w.heap.size + 2] w3_5' (w3_5'.setCell ⟨w.heap.size + 2, 5, none⟩ (.slice none 0 0)) := (Only.refl _ _).setCell _ _ (by simp)
    replace B_r := B_r.set_ 5 (.slice none 0 0)
    generalize w3_5'.setCell ⟨w.heap.size + 2, 5, none⟩ (.slice none 0 0) = w3_6' at *
    replace G := G.trans g_6
    clear g_6
    have g_7 : Only [w.heap.size + 2] w3_6' (w3_6'.setCell ⟨w.heap.size + 2, 6, none⟩ (.slice none 0 0)) := (Only.refl _ _).setCell _ _ (by simp)
    replace B_r := B_r.set_ 6 (.slice none 0 0)
    generalize w3_6'.setCell ⟨w.heap.size + 2, 6, none⟩ (.slice none 0 0) = w3_7' at *
    replace G := G.trans g_7
    clear g_7
    have g_8 : Only [w.heap.size + 2] w3_7' (w3_7'.setCell ⟨w.heap.size + 2, 7, none⟩ (.int .i64 0)) := (Only.refl _ _).setCell _ _ (by simp)
    replace B_r := B_r.set_ 7 (.int .i64 0)
    generalize w3_7'.setCell ⟨w.heap.size + 2, 7, none⟩ (.int .i64 0) = w3_8' at *
    replace G := G.trans g_8
    clear g_8
    have g_9 : Only [w.heap.size + 2] w3_8' (w3_8'.setCell ⟨w.heap.size + 2, 8, none⟩ (.slice none 0 0)) := (Only.refl _ _).setCell _ _ (by simp)
    replace B_r := B_r.set_ 8 (.slice none 0 0)
    generalize w3_8'.setCell ⟨w.heap.size + 2, 8, none⟩ (.slice none 0 0) = w3_9' at *
    replace G := G.trans g_9
    clear g_9
    have g_10 : Only [w.heap.size + 2] w3_9' (w3_9'.setCell ⟨w.heap.size + 2, 9, none⟩ (.int .i64 0)) := (Only.refl _ _).setCell _ _ (by simp)
    replace B_r := B_r.set_ 9 (.int .i64 0)
    generalize w3_9'.setCell ⟨w.heap.size + 2, 9, none⟩ (.int .i64 0) = w3_10' at *
    replace G := G.trans g_10
    clear g_10
    have g_11 : Only [w.heap.size + 2] w3_10' (w3_10'.setCell ⟨w.heap.size + 2, 10, none⟩ (.int .i64 0)) := (Only.refl _ _).setCell _ _ (by simp)
    replace B_r := B_r.set_ 10 (.int .i64 0)
    generalize w3_10'.setCell ⟨w.heap.size + 2, 10, none⟩ (.int .i64 0) = w3' at *
    replace G := G.trans g_11
    clear g_11
    simp only [List.setIfInBounds_toArray, List.set_cons_zero, List.set_cons_succ] at B_r
    have V_w3' : Below w.heap.size w w3' := (V_w2').trans (G.below (V_w2').size (fun q hq => by have := (V_w2').size; simp at hq; omega))
    replace B_a := B_a.only G (by first | (simp; done) | (simp; omega))
    replace B_m := B_m.only G (by first | (simp; done) | (simp; omega))
    have sG0 := G.size
    clear G
    clear V_w2'
    have S_w3' : w2'.heap.size + 0 ≤ w3'.heap.size := by omega
    clear sG0
    have e_r_0 : w3'.cell? ⟨w.heap.size + 2, 0, none⟩ = some (.int .i64 0) := B_r.cell 0
    have e_r_1 : w3'.cell? ⟨w.heap.size + 2, 1, none⟩ = some (.int .i64 0) := B_r.cell 1
    have e_r_2 : w3'.cell? ⟨w.heap.size + 2, 2, none⟩ = some (.int .i64 0) := B_r.cell 2
    have e_r_3 : w3'.cell? ⟨w.heap.size + 2, 3, none⟩ = some (.int .i64 0) := B_r.cell 3
    have e_r_4 : w3'.cell? ⟨w.heap.size + 2, 4, none⟩ = some (.int .i64 0) := B_r.cell 4
    have e_r_5 : w3'.cell? ⟨w.heap.size + 2, 5, none⟩ = some (.slice none 0 0) := B_r.cell 5
    have e_r_6 : w3'.cell? ⟨w.heap.size + 2, 6, none⟩ = some (.slice none 0 0) := B_r.cell 6
    have e_r_7 : w3'.cell? ⟨w.heap.size + 2, 7, none⟩ = some (.int .i64 0) := B_r.cell 7
    have e_r_8 : w3'.cell? ⟨w.heap.size + 2, 8, none⟩ = some (.slice none 0 0) := B_r.cell 8
    have e_r_9 : w3'.cell? ⟨w.heap.size + 2, 9, none⟩ = some (.int .i64 0) := B_r.cell 9
    have e_r_10 : w3'.cell? ⟨w.heap.size + 2, 10, none⟩ = some (.int .i64 0) := B_r.cell 10
    exact bodyPost_ret (v := .tuple #[.agg #[.int .i64 0, .int .i64 0, .int .i64 0, .int .i64 0, .int .i64 0, .slice none 0 0, .slice none 0 0, .int .i64 0, .slice none 0 0, .int .i64 0, .int .i64 0], .bool false]) (by simp [results, Tryd.results37, go_sem, e_r_0, e_r_1, e_r_2, e_r_3, e_r_4, e_r_5, e_r_6, e_r_7, e_r_8, e_r_9, e_r_10]) rfl (by first | exact ⟨zeroX, [], rfl, PlO.nil _ _, V_w3'⟩ | exact ⟨zeroX, rfl, ⟨[], PlO.nil _ _⟩, V_w3'⟩)
  cases b1
  · have d1 : ((a.status != 0) : Bool) = true := by simpa using HB1.out
    have e_a_0 : w2'.cell? ⟨w.heap.size, 0, none⟩ = some (.int .i64 a.P) := B_a.cell 0
    have e_a_1 : w2'.cell? ⟨w.heap.size, 1, none⟩ = some (.int .i64 a.party) := B_a.cell 1
    have e_a_2 : w2'.cell? ⟨w.heap.size, 2, none⟩ = some (.int .i64 a.input) := B_a.cell 2
    have e_a_3 : w2'.cell? ⟨w.heap.size, 3, none⟩ = some (.int .i64 a.mask) := B_a.cell 3
    have e_a_4 : w2'.cell? ⟨w.heap.size, 4, none⟩ = some (.int .i64 a.delta) := B_a.cell 4
    have e_a_5 : w2'.cell? ⟨w.heap.size, 5, none⟩ = some (.slice x.sa x.sn x.sc) := B_a.cell 5
    have e_a_6 : w2'.cell? ⟨w.heap.size, 6, none⟩ = some (.slice x.ka x.kn x.kc) := B_a.cell 6
    have e_a_7 : w2'.cell? ⟨w.heap.size, 7, none⟩ = some (.int .i64 a.step) := B_a.cell 7
    have e_a_8 : w2'.cell? ⟨w.heap.size, 8, none⟩ = some (.slice x.ha x.hn x.hc) := B_a.cell 8
    have e_a_9 : w2'.cell? ⟨w.heap.size, 9, none⟩ = some (.int .i64 a.status) := B_a.cell 9
    have e_a_10 : w2'.cell? ⟨w.heap.size, 10, none⟩ = some (.int .i64 a.out) := B_a.cell 10
    have e_r_0 : w2'.cell? ⟨w.heap.size + 2, 0, none⟩ = some (.int .i64 0) := B_r.cell 0
    have f_r_0 : w2'.frozen? ⟨w.heap.size + 2, 0, none⟩ = false := B_r.frozen 0
    have e_r_1 : w2'.cell? ⟨w.heap.size + 2, 1, none⟩ = some (.int .i64 0) := B_r.cell 1
    have f_r_1 : w2'.frozen? ⟨w.heap.size + 2, 1, none⟩ = false := B_r.frozen 1
    have e_r_2 : w2'.cell? ⟨w.heap.size + 2, 2, none⟩ = some (.int .i64 0) := B_r.cell 2
    have f_r_2 : w2'.frozen? ⟨w.heap.size + 2, 2, none⟩ = false := B_r.frozen 2
    have e_r_3 : w2'.cell? ⟨w.heap.size + 2, 3, none⟩ = some (.int .i64 0) := B_r.cell 3
    have f_r_3 : w2'.frozen? ⟨w.heap.size + 2, 3, none⟩ = false := B_r.frozen 3
    have e_r_4 : w2'.cell? ⟨w.heap.size + 2, 4, none⟩ = some (.int .i64 0) := B_r.cell 4
    have f_r_4 : w2'.frozen? ⟨w.heap.size + 2, 4, none⟩ = false := B_r.frozen 4
    have e_r_5 : w2'.cell? ⟨w.heap.size + 2, 5, none⟩ = some (.slice none 0 0) := B_r.cell 5
    have f_r_5 : w2'.frozen? ⟨w.heap.size + 2, 5, none⟩ = false := B_r.frozen 5
    have e_r_6 : w2'.cell? ⟨w.heap.size + 2, 6, none⟩ = some (.slice none 0 0) := B_r.cell 6
    have f_r_6 : w2'.frozen? ⟨w.heap.size + 2, 6, none⟩ = false := B_r.frozen 6
    have e_r_7 : w2'.cell? ⟨w.heap.size + 2, 7, none⟩ = some (.int .i64 0) := B_r.cell 7
    have f_r_7 : w2'.frozen? ⟨w.heap.size + 2, 7, none⟩ = false := B_r.frozen 7
    have e_r_8 : w2'.cell? ⟨w.heap.size + 2, 8, none⟩ = some (.slice none 0 0) := B_r.cell 8
    have f_r_8 : w2'.frozen? ⟨w.heap.size + 2, 8, none⟩ = false := B_r.frozen 8
    have e_r_9 : w2'.cell? ⟨w.heap.size + 2, 9, none⟩ = some (.int .i64 0) := B_r.cell 9
    have f_r_9 : w2'.frozen? ⟨w.heap.size + 2, 9, none⟩ = false := B_r.frozen 9
    have e_r_10 : w2'.cell? ⟨w.heap.size + 2, 10, none⟩ = some (.int .i64 0) := B_r.cell 10
    have f_r_10 : w2'.frozen? ⟨w.heap.size + 2, 10, none⟩ = false := B_r.frozen 10
    go_wp2
    clear e_a_0 e_a_1 e_a_2 e_a_3 e_a_4 e_a_5 e_a_6 e_a_7 e_a_8 e_a_9 e_a_10 e_r_0 f_r_0 e_r_1 f_r_1 e_r_2 f_r_2 e_r_3 f_r_3 e_r_4 f_r_4 e_r_5 f_r_5 e_r_6 f_r_6 e_r_7 f_r_7 e_r_8 f_r_8 e_r_9 f_r_9 e_r_10 f_r_10
    have g_1 : Only [w.heap.size + 2] w2' (w2'.setCell ⟨w.heap.size + 2, 0, none⟩ (.int .i64 0)) := (Only.refl _ _).setCell _ _ (by simp)
    replace B_r := B_r.set_ 0 (.int .i64 0)
    generalize w2'.setCell ⟨w.heap.size + 2, 0, none⟩ (.int .i64 0) = w4_1' at *
    have G := g_1
    clear g_1
    have g_2 : Only [w.heap.size + 2] w4_1' (w4_1'.setCell ⟨w.heap.size + 2, 1, none⟩ (.int .i64 0)) := (Only.refl _ _).setCell _ _ (by simp)
    replace B_r := B_r.set_ 1 (.int .i64 0)
    generalize w4_1'.setCell ⟨w.heap.size + 2, 1, none⟩ (.int .i64 0) = w4_2' at *
    replace G := G.trans g_2
    clear g_2
    have g_3 : Only [w.heap.size + 2] w4_2' (w4_2'.setCell ⟨w.heap.size + 2, 2, none⟩ (.int .i64 0)) := (Only.refl _ _).setCell _ _ (by simp)
    replace B_r := B_r.set_ 2 (.int .i64 0)
    generalize w4_2'.setCell ⟨w.heap.size + 2, 2, none⟩ (.int .i64 0) = w4_3' at *
    replace G := G.trans g_3
    clear g_3
    have g_4 : Only [w.heap.size + 2] w4_3' (w4_3'.setCell ⟨w.heap.size + 2, 3, none⟩ (.int .i64 0)) := (Only.refl _ _).setCell _ _ (by simp)
    replace B_r := B_r.set_ 3 (.int .i64 0)
    generalize w4_3'.setCell ⟨w.heap.size + 2, 3, none⟩ (.int .i64 0) = w4_4' at *
    replace G := G.trans g_4
    clear g_4
    have g_5 : Only [w.heap.size + 2] w4_4' (w4_4'.setCell ⟨w.heap.size + 2, 4, none⟩ (.int .i64 0)) := (Only.refl _ _).setCell _ _ (by simp)
    replace B_r := B_r.set_ 4 (.int .i64 0)
    generalize w4_4'.setCell ⟨w.heap.size + 2, 4, none⟩ (.int .i64 0) = w4_5' at *
    replace G := G.trans g_5
    clear g_5
    have g_6 : Only [w.heap.size + 2] w4_5' (w4_5'.setCell ⟨w.heap.size + 2, 5, none⟩ (.slice none 0 0)) := (Only.refl _ _).setCell _ _ (by simp)
    replace B_r := B_r.set_ 5 (.slice none 0 0)
    generalize w4_5'.setCell ⟨w.heap.size + 2, 5, none⟩ (.slice none 0 0) = w4_6' at *
    replace G := G.trans g_6
    clear g_6
    have g_7 : Only [w.heap.size + 2] w4_6' (w4_6'.setCell ⟨w.heap.size + 2, 6, none⟩ (.slice none 0 0)) := (Only.refl _ _).setCell _ _ (by simp)
    replace B_r := B_r.set_ 6 (.slice none 0 0)
    generalize w4_6'.setCell ⟨w.heap.size + 2, 6, none⟩ (.slice none 0 0) = w4_7' at *
    replace G := G.trans g_7
    clear g_7
    have g_8 : Only [w.heap.size + 2] w4_7' (w4_7'.setCell ⟨w.heap.size + 2, 7, none⟩ (.int .i64 0)) := (Only.refl _ _).setCell _ _ (by simp)
    replace B_r := B_r.set_ 7 (.int .i64 0)
    generalize w4_7'.setCell ⟨w.heap.size + 2, 7, none⟩ (.int .i64 0) = w4_8' at *
    replace G := G.trans g_8
    clear g_8
    have g_9 : Only [w.heap.size + 2] w4_8' (w4_8'.setCell ⟨w.heap.size + 2, 8, none⟩ (.slice none 0 0)) := (Only.refl _ _).setCell _ _ (by simp)
    replace B_r := B_r.set_ 8 (.slice none 0 0)
    generalize w4_8'.setCell ⟨w.heap.size + 2, 8, none⟩ (.slice none 0 0) = w4_9' at *
    replace G := G.trans g_9
    clear g_9
    have g_10 : Only [w.heap.size + 2] w4_9' (w4_9'.setCell ⟨w.heap.size + 2, 9, none⟩ (.int .i64 0)) := (Only.refl _ _).setCell _ _ (by simp)
    replace B_r := B_r.set_ 9 (.int .i64 0)
    generalize w4_9'.setCell ⟨w.heap.size + 2, 9, none⟩ (.int .i64 0) = w4_10' at *
    replace G := G.trans g_10
    clear g_10
    have g_11 : Only [w.heap.size + 2] w4_10' (w4_10'.setCell ⟨w.heap.size + 2, 10, none⟩ (.int .i64 0)) := (Only.refl _ _).setCell _ _ (by simp)
    replace B_r := B_r.set_ 10 (.int .i64 0)
    generalize w4_10'.setCell ⟨w.heap.size + 2, 10, none⟩ (.int .i64 0) = w4' at *
    replace G := G.trans g_11
    clear g_11
    simp only [List.setIfInBounds_toArray, List.set_cons_zero, List.set_cons_succ] at B_r
    have V_w4' : Below w.heap.size w w4' := (V_w2').trans (G.below (V_w2').size (fun q hq => by have := (V_w2').size; simp at hq; omega))
    replace B_a := B_a.only G (by first | (simp; done) | (simp; omega))
    replace B_m := B_m.only G (by first | (simp; done) | (simp; omega))
    have sG0 := G.size
    clear G
    clear V_w2'
    have S_w4' : w2'.heap.size + 0 ≤ w4'.heap.size := by omega
    clear sG0
    have e_r_0 : w4'.cell? ⟨w.heap.size + 2, 0, none⟩ = some (.int .i64 0) := B_r.cell 0
    have e_r_1 : w4'.cell? ⟨w.heap.size + 2, 1, none⟩ = some (.int .i64 0) := B_r.cell 1
    have e_r_2 : w4'.cell? ⟨w.heap.size + 2, 2, none⟩ = some (.int .i64 0) := B_r.cell 2
    have e_r_3 : w4'.cell? ⟨w.heap.size + 2, 3, none⟩ = some (.int .i64 0) := B_r.cell 3
    have e_r_4 : w4'.cell? ⟨w.heap.size + 2, 4, none⟩ = some (.int .i64 0) := B_r.cell 4
    have e_r_5 : w4'.cell? ⟨w.heap.size + 2, 5, none⟩ = some (.slice none 0 0) := B_r.cell 5
    have e_r_6 : w4'.cell? ⟨w.heap.size + 2, 6, none⟩ = some (.slice none 0 0) := B_r.cell 6
    have e_r_7 : w4'.cell? ⟨w.heap.size + 2, 7, none⟩ = some (.int .i64 0) := B_r.cell 7
    have e_r_8 : w4'.cell? ⟨w.heap.size + 2, 8, none⟩ = some (.slice none 0 0) := B_r.cell 8
    have e_r_9 : w4'.cell? ⟨w.heap.size + 2, 9, none⟩ = some (.int .i64 0) := B_r.cell 9
    have e_r_10 : w4'.cell? ⟨w.heap.size + 2, 10, none⟩ = some (.int .i64 0) := B_r.cell 10
    exact bodyPost_ret (v := .tuple #[.agg #[.int .i64 0, .int .i64 0, .int .i64 0, .int .i64 0, .int .i64 0, .slice none 0 0, .slice none 0 0, .int .i64 0, .slice none 0 0, .int .i64 0, .int .i64 0], .bool false]) (by simp [results, Tryd.results37, go_sem, e_r_0, e_r_1, e_r_2, e_r_3, e_r_4, e_r_5, e_r_6, e_r_7, e_r_8, e_r_9, e_r_10]) rfl (by first | exact ⟨zeroX, [], rfl, PlO.nil _ _, V_w4'⟩ | exact ⟨zeroX, rfl, ⟨[], PlO.nil _ _⟩, V_w4'⟩)
  have h0 : a.status = 0 := by simpa using HB1.out
  have d1 : ((a.status != 0) : Bool) = false := by simpa using h0
  replace CM := Lib.hid (CM.out rfl h0)
  replace CO := Lib.hid (CO.out rfl h0)
  clear h0
  have e_a_0 : w2'.cell? ⟨w.heap.size, 0, none⟩ = some (.int .i64 a.P) := B_a.cell 0
  have e_a_1 : w2'.cell? ⟨w.heap.size, 1, none⟩ = some (.int .i64 a.party) := B_a.cell 1
  have e_a_2 : w2'.cell? ⟨w.heap.size, 2, none⟩ = some (.int .i64 a.input) := B_a.cell 2
  have e_a_3 : w2'.cell? ⟨w.heap.size, 3, none⟩ = some (.int .i64 a.mask) := B_a.cell 3
  have e_a_4 : w2'.cell? ⟨w.heap.size, 4, none⟩ = some (.int .i64 a.delta) := B_a.cell 4
  have e_a_5 : w2'.cell? ⟨w.heap.size, 5, none⟩ = some (.slice x.sa x.sn x.sc) := B_a.cell 5
  have e_a_6 : w2'.cell? ⟨w.heap.size, 6, none⟩ = some (.slice x.ka x.kn x.kc) := B_a.cell 6
  have e_a_7 : w2'.cell? ⟨w.heap.size, 7, none⟩ = some (.int .i64 a.step) := B_a.cell 7
  have e_a_8 : w2'.cell? ⟨w.heap.size, 8, none⟩ = some (.slice x.ha x.hn x.hc) := B_a.cell 8
  have e_a_9 : w2'.cell? ⟨w.heap.size, 9, none⟩ = some (.int .i64 a.status) := B_a.cell 9
  have e_a_10 : w2'.cell? ⟨w.heap.size, 10, none⟩ = some (.int .i64 a.out) := B_a.cell 10
  have e_m_0 : w2'.cell? ⟨w.heap.size + 1, 0, none⟩ = some (.int .i64 fr) := B_m.cell 0
  have e_m_1 : w2'.cell? ⟨w.heap.size + 1, 1, none⟩ = some (.int .i64 st) := B_m.cell 1
  have e_m_2 : w2'.cell? ⟨w.heap.size + 1, 2, none⟩ = some (.slice b n c) := B_m.cell 2
  go_wp2_with fail
  clear e_a_0 e_a_1 e_a_2 e_a_3 e_a_4 e_a_5 e_a_6 e_a_7 e_a_8 e_a_9 e_a_10 e_m_0 e_m_1 e_m_2
  refine (CM.out _ (LH.out.below V_w2') (LM.out.below V_w2')).mono ?_
  rintro e w5' ⟨z, rfl, z1, u_w5'⟩
  replace B_a := B_a.below u_w5'
  replace B_m := B_m.below u_w5'
  replace B_r := B_r.below u_w5'
  have S_w5' := u_w5'.size
  have V_w5' : Below w.heap.size w w5' := V_w2'.trans (u_w5'.mono V_w2'.size)
  clear V_w2'
  clear u_w5'
  go_wp2_with fail
  refine (CO.out _ _ z1).mono ?_
  rintro e w6' ⟨y, F, rfl, o, u_w6'⟩
  replace B_a := B_a.below u_w6'
  replace B_m := B_m.below u_w6'
  replace B_r := B_r.below u_w6'
  have S_w6' := u_w6'.size
  have V_w6' : Below w.heap.size w w6' := V_w5'.trans (u_w6'.mono V_w5'.size)
  clear V_w5'
  clear u_w6'
  clear z1
  replace o := o.lower (b' := w.heap.size + 3) (by omega)
  have Q_o := Lib.hid o.feet
  have e_r_0 : w6'.cell? ⟨w.heap.size + 2, 0, none⟩ = some (.int .i64 0) := B_r.cell 0
  have f_r_0 : w6'.frozen? ⟨w.heap.size + 2, 0, none⟩ = false := B_r.frozen 0
  have e_r_1 : w6'.cell? ⟨w.heap.size + 2, 1, none⟩ = some (.int .i64 0) := B_r.cell 1
  have f_r_1 : w6'.frozen? ⟨w.heap.size + 2, 1, none⟩ = false := B_r.frozen 1
  have e_r_2 : w6'.cell? ⟨w.heap.size + 2, 2, none⟩ = some (.int .i64 0) := B_r.cell 2
  have f_r_2 : w6'.frozen? ⟨w.heap.size + 2, 2, none⟩ = false := B_r.frozen 2
  have e_r_3 : w6'.cell? ⟨w.heap.size + 2, 3, none⟩ = some (.int .i64 0) := B_r.cell 3
  have f_r_3 : w6'.frozen? ⟨w.heap.size + 2, 3, none⟩ = false := B_r.frozen 3
  have e_r_4 : w6'.cell? ⟨w.heap.size + 2, 4, none⟩ = some (.int .i64 0) := B_r.cell 4
  have f_r_4 : w6'.frozen? ⟨w.heap.size + 2, 4, none⟩ = false := B_r.frozen 4
  have e_r_5 : w6'.cell? ⟨w.heap.size + 2, 5, none⟩ = some (.slice none 0 0) := B_r.cell 5
  have f_r_5 : w6'.frozen? ⟨w.heap.size + 2, 5, none⟩ = false := B_r.frozen 5
  have e_r_6 : w6'.cell? ⟨w.heap.size + 2, 6, none⟩ = some (.slice none 0 0) := B_r.cell 6
  have f_r_6 : w6'.frozen? ⟨w.heap.size + 2, 6, none⟩ = false := B_r.frozen 6
  have e_r_7 : w6'.cell? ⟨w.heap.size + 2, 7, none⟩ = some (.int .i64 0) := B_r.cell 7
  have f_r_7 : w6'.frozen? ⟨w.heap.size + 2, 7, none⟩ = false := B_r.frozen 7
  have e_r_8 : w6'.cell? ⟨w.heap.size + 2, 8, none⟩ = some (.slice none 0 0) := B_r.cell 8
  have f_r_8 : w6'.frozen? ⟨w.heap.size + 2, 8, none⟩ = false := B_r.frozen 8
  have e_r_9 : w6'.cell? ⟨w.heap.size + 2, 9, none⟩ = some (.int .i64 0) := B_r.cell 9
  have f_r_9 : w6'.frozen? ⟨w.heap.size + 2, 9, none⟩ = false := B_r.frozen 9
  have e_r_10 : w6'.cell? ⟨w.heap.size + 2, 10, none⟩ = some (.int .i64 0) := B_r.cell 10
  have f_r_10 : w6'.frozen? ⟨w.heap.size + 2, 10, none⟩ = false := B_r.frozen 10
  go_wp2
  clear e_r_0 f_r_0 e_r_1 f_r_1 e_r_2 f_r_2 e_r_3 f_r_3 e_r_4 f_r_4 e_r_5 f_r_5 e_r_6 f_r_6 e_r_7 f_r_7 e_r_8 f_r_8 e_r_9 f_r_9 e_r_10 f_r_10
  have g_1 : Only [w.heap.size + 2] w6' (w6'.setCell ⟨w.heap.size + 2, 0, none⟩ (.int .i64 t.P)) := (Only.refl _ _).setCell _ _ (by simp)
  replace B_r := B_r.set_ 0 (.int .i64 t.P)
  generalize w6'.setCell ⟨w.heap.size + 2, 0, none⟩ (.int .i64 t.P) = w7_1' at *
  have G := g_1
  clear g_1
  have g_2 : Only [w.heap.size + 2] w7_1' (w7_1'.setCell ⟨w.heap.size + 2, 1, none⟩ (.int .i64 t.party)) := (Only.refl _ _).setCell _ _ (by simp)
  replace B_r := B_r.set_ 1 (.int .i64 t.party)
  generalize w7_1'.setCell ⟨w.heap.size + 2, 1, none⟩ (.int .i64 t.party) = w7_2' at *
  replace G := G.trans g_2
  clear g_2
  have g_3 : Only [w.heap.size + 2] w7_2' (w7_2'.setCell ⟨w.heap.size + 2, 2, none⟩ (.int .i64 t.input)) := (Only.refl _ _).setCell _ _ (by simp)
  replace B_r := B_r.set_ 2 (.int .i64 t.input)
  generalize w7_2'.setCell ⟨w.heap.size + 2, 2, none⟩ (.int .i64 t.input) = w7_3' at *
  replace G := G.trans g_3
  clear g_3
  have g_4 : Only [w.heap.size + 2] w7_3' (w7_3'.setCell ⟨w.heap.size + 2, 3, none⟩ (.int .i64 t.mask)) := (Only.refl _ _).setCell _ _ (by simp)
  replace B_r := B_r.set_ 3 (.int .i64 t.mask)
  generalize w7_3'.setCell ⟨w.heap.size + 2, 3, none⟩ (.int .i64 t.mask) = w7_4' at *
  replace G := G.trans g_4
  clear g_4
  have g_5 : Only [w.heap.size + 2] w7_4' (w7_4'.setCell ⟨w.heap.size + 2, 4, none⟩ (.int .i64 t.delta)) := (Only.refl _ _).setCell _ _ (by simp)
  replace B_r := B_r.set_ 4 (.int .i64 t.delta)
  generalize w7_4'.setCell ⟨w.heap.size + 2, 4, none⟩ (.int .i64 t.delta) = w7_5' at *
  replace G := G.trans g_5
  clear g_5
  have g_6 : Only [w.heap.size + 2] w7_5' (w7_5'.setCell ⟨w.heap.size + 2, 5, none⟩ (.slice y.sa y.sn y.sc)) := (Only.refl _ _).setCell _ _ (by simp)
  replace B_r := B_r.set_ 5 (.slice y.sa y.sn y.sc)
  generalize w7_5'.setCell ⟨w.heap.size + 2, 5, none⟩ (.slice y.sa y.sn y.sc) = w7_6' at *
  replace G := G.trans g_6
  clear g_6
  have g_7 : Only [w.heap.size + 2] w7_6' (w7_6'.setCell ⟨w.heap.size + 2, 6, none⟩ (.slice y.ka y.kn y.kc)) := (Only.refl _ _).setCell _ _ (by simp)
  replace B_r := B_r.set_ 6 (.slice y.ka y.kn y.kc)
  generalize w7_6'.setCell ⟨w.heap.size + 2, 6, none⟩ (.slice y.ka y.kn y.kc) = w7_7' at *
  replace G := G.trans g_7
  clear g_7
  have g_8 : Only [w.heap.size + 2] w7_7' (w7_7'.setCell ⟨w.heap.size + 2, 7, none⟩ (.int .i64 t.step)) := (Only.refl _ _).setCell _ _ (by simp)
  replace B_r := B_r.set_ 7 (.int .i64 t.step)
  generalize w7_7'.setCell ⟨w.heap.size + 2, 7, none⟩ (.int .i64 t.step) = w7_8' at *
  replace G := G.trans g_8
  clear g_8
  have g_9 : Only [w.heap.size + 2] w7_8' (w7_8'.setCell ⟨w.heap.size + 2, 8, none⟩ (.slice y.ha y.hn y.hc)) := (Only.refl _ _).setCell _ _ (by simp)
  replace B_r := B_r.set_ 8 (.slice y.ha y.hn y.hc)
  generalize w7_8'.setCell ⟨w.heap.size + 2, 8, none⟩ (.slice y.ha y.hn y.hc) = w7_9' at *
  replace G := G.trans g_9
  clear g_9
  have g_10 : Only [w.heap.size + 2] w7_9' (w7_9'.setCell ⟨w.heap.size + 2, 9, none⟩ (.int .i64 t.status)) := (Only.refl _ _).setCell _ _ (by simp)
  replace B_r := B_r.set_ 9 (.int .i64 t.status)
  generalize w7_9'.setCell ⟨w.heap.size + 2, 9, none⟩ (.int .i64 t.status) = w7_10' at *
  replace G := G.trans g_10
  clear g_10
  have g_11 : Only [w.heap.size + 2] w7_10' (w7_10'.setCell ⟨w.heap.size + 2, 10, none⟩ (.int .i64 t.out)) := (Only.refl _ _).setCell _ _ (by simp)
  replace B_r := B_r.set_ 10 (.int .i64 t.out)
  generalize w7_10'.setCell ⟨w.heap.size + 2, 10, none⟩ (.int .i64 t.out) = w7' at *
  replace G := G.trans g_11
  clear g_11
  simp only [List.setIfInBounds_toArray, List.set_cons_zero, List.set_cons_succ] at B_r
  have V_w7' : Below w.heap.size w w7' := (V_w6').trans (G.below (V_w6').size (fun q hq => by have := (V_w6').size; simp at hq; omega))
  replace B_a := B_a.only G (by first | (simp; done) | (simp; omega))
  replace B_m := B_m.only G (by first | (simp; done) | (simp; omega))
  replace o := o.only G (fun q hq hq' => by have := Q_o.out q hq; simp at hq'; omega)
  have sG0 := G.size
  clear G
  clear V_w6'
  have S_w7' : w6'.heap.size + 0 ≤ w7'.heap.size := by omega
  clear sG0
  have e_r_0 : w7'.cell? ⟨w.heap.size + 2, 0, none⟩ = some (.int .i64 t.P) := B_r.cell 0
  have e_r_1 : w7'.cell? ⟨w.heap.size + 2, 1, none⟩ = some (.int .i64 t.party) := B_r.cell 1
  have e_r_2 : w7'.cell? ⟨w.heap.size + 2, 2, none⟩ = some (.int .i64 t.input) := B_r.cell 2
  have e_r_3 : w7'.cell? ⟨w.heap.size + 2, 3, none⟩ = some (.int .i64 t.mask) := B_r.cell 3
  have e_r_4 : w7'.cell? ⟨w.heap.size + 2, 4, none⟩ = some (.int .i64 t.delta) := B_r.cell 4
  have e_r_5 : w7'.cell? ⟨w.heap.size + 2, 5, none⟩ = some (.slice y.sa y.sn y.sc) := B_r.cell 5
  have e_r_6 : w7'.cell? ⟨w.heap.size + 2, 6, none⟩ = some (.slice y.ka y.kn y.kc) := B_r.cell 6
  have e_r_7 : w7'.cell? ⟨w.heap.size + 2, 7, none⟩ = some (.int .i64 t.step) := B_r.cell 7
  have e_r_8 : w7'.cell? ⟨w.heap.size + 2, 8, none⟩ = some (.slice y.ha y.hn y.hc) := B_r.cell 8
  have e_r_9 : w7'.cell? ⟨w.heap.size + 2, 9, none⟩ = some (.int .i64 t.status) := B_r.cell 9
  have e_r_10 : w7'.cell? ⟨w.heap.size + 2, 10, none⟩ = some (.int .i64 t.out) := B_r.cell 10
  exact bodyPost_ret (v := .tuple #[.agg #[.int .i64 t.P, .int .i64 t.party, .int .i64 t.input, .int .i64 t.mask, .int .i64 t.delta, .slice y.sa y.sn y.sc, .slice y.ka y.kn y.kc, .int .i64 t.step, .slice y.ha y.hn y.hc, .int .i64 t.status, .int .i64 t.out], .bool true]) (by simp [results, Tryd.results37, go_sem, e_r_0, e_r_1, e_r_2, e_r_3, e_r_4, e_r_5, e_r_6, e_r_7, e_r_8, e_r_9, e_r_10]) rfl (by first | exact ⟨y, F, rfl, o.lower (by omega), V_w7'⟩ | exact ⟨y, rfl, ⟨F, o.lower (by omega)⟩, V_w7'⟩)
end Go.Proofs.YtlmdckcohoddnaaDoor
