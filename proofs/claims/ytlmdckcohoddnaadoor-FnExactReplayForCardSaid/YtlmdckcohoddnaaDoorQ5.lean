/- Further lemmas and walks that the claim's proof rests on, part 5. -/
import Derived.Test.YtlmdckcohoddnaaDoorK1
import Derived.Test.YtlmdckcohoddnaaDoorK2
import Derived.Test.YtlmdckcohoddnaaDoorK3
import Derived.Test.YtlmdckcohoddnaaDoorK4
import Derived.Test.YtlmdckcohoddnaaDoorK5
import Derived.Test.YtlmdckcohoddnaaDoorK6
import Derived.Test.YtlmdckcohoddnaaDoorK7
import Derived.Test.YtlmdckcohoddnaaDoorK8
import Derived.Test.YtlmdckcohoddnaaDoorK9
import Derived.Test.YtlmdckcohoddnaaDoorK10
import Derived.Test.YtlmdckcohoddnaaDoorK11
import Derived.Test.YtlmdckcohoddnaaDoorK12
import Derived.Test.YtlmdckcohoddnaaDoorK13
import Derived.Test.YtlmdckcohoddnaaDoorQ1
import Derived.Test.YtlmdckcohoddnaaDoorQ2
import Derived.Test.YtlmdckcohoddnaaDoorQ3
import Derived.Test.YtlmdckcohoddnaaDoorQ4
namespace Go.Proofs.YtlmdckcohoddnaaDoor
open Go.RowKit
theorem PlB.alloc {F w x s k h} (p : PlB F w x s k h) (ob : Obj) : PlB F (w.alloc ob) x s k h := p.below ((Below.refl _ _).alloc (Nat.le_refl _) _)
theorem PlB.drew {F w x s k h} (p : PlB F w x s k h) : PlB F w.drew x s k h := p.below ((Below.refl _ _).drew)
set_option maxHeartbeats 16000000 in
set_option maxRecDepth 100000 in
theorem spec_ReplayFor_any (a : Pl) (x : PlX) (p : Option Addr) (n c : Nat) (D : List MsD) (w : World) (h : PlR w x a.shares a.keys a.heard) (hM : MsR w p n c D) (_hT : Tbl w) :
    Calls Tryd.prog 42 #[.agg #[.int .i64 a.P, .int .i64 a.party, .int .i64 a.input, .int .i64 a.mask, .int .i64 a.delta, .slice x.sa x.sn x.sc, .slice x.ka x.kn x.kc, .int .i64 a.step, .slice x.ha x.hn x.hc, .int .i64 a.status, .int .i64 a.out], .slice p n c] w fun e w' => ∃ y F, e = .returned (.tuple #[.agg #[.int .i64 (rfP a D.length D).P, .int .i64 (rfP a D.length D).party, .int .i64 (rfP a D.length D).input, .int .i64 (rfP a D.length D).mask, .int .i64 (rfP a D.length D).delta, .slice y.sa y.sn y.sc, .slice y.ka y.kn y.kc, .int .i64 (rfP a D.length D).step, .slice y.ha y.hn y.hc, .int .i64 (rfP a D.length D).status, .int .i64 (rfP a D.length D).out], .bool (rpB a D.length)]) ∧ PlO w' w.heap.size y (rfP a D.length D).shares (rfP a D.length D).keys (rfP a D.length D).heard F ∧ Below w.heap.size w w' := by
  have CG := Lib.hid (fun (W : World) (h2 : PlR W x a.shares a.keys a.heard) => ptGood_any a x W h2)
  rw [hM.len]
  have hnl := hM.le
  have HL := Lib.hid hM.len
  have RN := Lib.hid (fun (h1 : plB a = true) (h2 : a.status = 0) => RunN.of h1 h2)
  have CP := Lib.hid (fun (h1 : plB a = true) (W : World) (h2 : PlR W x a.shares a.keys a.heard) => copyPlayer_any a x W h2 (PlN.of h1))
  have rng := Lib.hid (fun (h1 : plB a = true) => (show (0 ≤ a.step ∧ a.step ≤ 3) ∧ (0 ≤ a.status ∧ a.status ≤ 2) from by
    obtain ⟨_, _, _, _, _, _, _, _, _, _, _, r1, _, _, r2⟩ := plB_parts h1
    exact ⟨r1, r2⟩))
  obtain ⟨rs, hS, hD⟩ := hM
  have LS := Lib.hid hS
  replace hD := Lib.hid hD
  have hrl := Lib.hid hS.len
  unfold rfP rpB
  generalize plB a = b0 at *
  generalize hb1 : decide (a.step = 0) = b1
  generalize hb2 : decide (a.status = 0) = b2
  generalize hb3 : decide (n ≤ 6) = b3
  have HB1 := Lib.hid hb1
  have HB2 := Lib.hid hb2
  have HB3 := Lib.hid hb3
  have LH := Lib.hid h
  clear hb1 hb2 hb3 h hS
  go_enter Tryd.func42, Tryd.ntmps42
  go_wp2_with fail
  have V_w1'_1 : Below w.heap.size w (w.alloc (.cells #[.int .i64 a.P, .int .i64 a.party, .int .i64 a.input, .int .i64 a.mask, .int .i64 a.delta, .slice x.sa x.sn x.sc, .slice x.ka x.kn x.kc, .int .i64 a.step, .slice x.ha x.hn x.hc, .int .i64 a.status, .int .i64 a.out] 31)) := ((Below.refl w.heap.size w)).alloc (by have := ((Below.refl w.heap.size w)).size; first | exact this | (simp at *; omega)) _
  have B_a : Blk (w.alloc (.cells #[.int .i64 a.P, .int .i64 a.party, .int .i64 a.input, .int .i64 a.mask, .int .i64 a.delta, .slice x.sa x.sn x.sc, .slice x.ka x.kn x.kc, .int .i64 a.step, .slice x.ha x.hn x.hc, .int .i64 a.status, .int .i64 a.out] 31)) (w.heap.size) 31 #[.int .i64 a.P, .int .i64 a.party, .int .i64 a.input, .int .i64 a.mask, .int .i64 a.delta, .slice x.sa x.sn x.sc, .slice x.ka x.kn x.kc, .int .i64 a.step, .slice x.ha x.hn x.hc, .int .i64 a.status, .int .i64 a.out] := by exact Blk.new w 31 #[.int .i64 a.P, .int .i64 a.party, .int .i64 a.input, .int .i64 a.mask, .int .i64 a.delta, .slice x.sa x.sn x.sc, .slice x.ka x.kn x.kc, .int .i64 a.step, .slice x.ha x.hn x.hc, .int .i64 a.status, .int .i64 a.out]
  have V_w1'_2 : Below w.heap.size w ((w.alloc (.cells #[.int .i64 a.P, .int .i64 a.party, .int .i64 a.input, .int .i64 a.mask, .int .i64 a.delta, .slice x.sa x.sn x.sc, .slice x.ka x.kn x.kc, .int .i64 a.step, .slice x.ha x.hn x.hc, .int .i64 a.status, .int .i64 a.out] 31)).alloc (.cells #[.int .i64 0, .int .i64 0, .int .i64 0, .int .i64 0, .int .i64 0, .slice none 0 0, .slice none 0 0, .int .i64 0, .slice none 0 0, .int .i64 0, .int .i64 0] 31)) := (V_w1'_1).alloc (by have := (V_w1'_1).size; first | exact this | (simp at *; omega)) _
  replace B_a := B_a.alloc (.cells #[.int .i64 0, .int .i64 0, .int .i64 0, .int .i64 0, .int .i64 0, .slice none 0 0, .slice none 0 0, .int .i64 0, .slice none 0 0, .int .i64 0, .int .i64 0] 31)
  have B_r : Blk ((w.alloc (.cells #[.int .i64 a.P, .int .i64 a.party, .int .i64 a.input, .int .i64 a.mask, .int .i64 a.delta, .slice x.sa x.sn x.sc, .slice x.ka x.kn x.kc, .int .i64 a.step, .slice x.ha x.hn x.hc, .int .i64 a.status, .int .i64 a.out] 31)).alloc (.cells #[.int .i64 0, .int .i64 0, .int .i64 0, .int .i64 0, .int .i64 0, .slice none 0 0, .slice none 0 0, .int .i64 0, .slice none 0 0, .int .i64 0, .int .i64 0] 31)) (w.heap.size + 1) 31 #[.int .i64 0, .int .i64 0, .int .i64 0, .int .i64 0, .int .i64 0, .slice none 0 0, .slice none 0 0, .int .i64 0, .slice none 0 0, .int .i64 0, .int .i64 0] := by simpa [World.setCell] using (Blk.new (w.alloc (.cells #[.int .i64 a.P, .int .i64 a.party, .int .i64 a.input, .int .i64 a.mask, .int .i64 a.delta, .slice x.sa x.sn x.sc, .slice x.ka x.kn x.kc, .int .i64 a.step, .slice x.ha x.hn x.hc, .int .i64 a.status, .int .i64 a.out] 31)) 31 #[.int .i64 0, .int .i64 0, .int .i64 0, .int .i64 0, .int .i64 0, .slice none 0 0, .slice none 0 0, .int .i64 0, .slice none 0 0, .int .i64 0, .int .i64 0])
  have S_w1' : w.heap.size + 2 ≤ ((w.alloc (.cells #[.int .i64 a.P, .int .i64 a.party, .int .i64 a.input, .int .i64 a.mask, .int .i64 a.delta, .slice x.sa x.sn x.sc, .slice x.ka x.kn x.kc, .int .i64 a.step, .slice x.ha x.hn x.hc, .int .i64 a.status, .int .i64 a.out] 31)).alloc (.cells #[.int .i64 0, .int .i64 0, .int .i64 0, .int .i64 0, .int .i64 0, .slice none 0 0, .slice none 0 0, .int .i64 0, .slice none 0 0, .int .i64 0, .int .i64 0] 31)).heap.size := by first | (simp; done) | (simp; omega) | (simp [World.setCell]; done) | (simp [World.setCell]; omega)
  generalize ((w.alloc (.cells #[.int .i64 a.P, .int .i64 a.party, .int .i64 a.input, .int .i64 a.mask, .int .i64 a.delta, .slice x.sa x.sn x.sc, .slice x.ka x.kn x.kc, .int .i64 a.step, .slice x.ha x.hn x.hc, .int .i64 a.status, .int .i64 a.out] 31)).alloc (.cells #[.int .i64 0, .int .i64 0, .int .i64 0, .int .i64 0, .int .i64 0, .slice none 0 0, .slice none 0 0, .int .i64 0, .slice none 0 0, .int .i64 0, .int .i64 0] 31)) = w1' at *
  clear V_w1'_1
  have V_w1' : Below w.heap.size w w1' := V_w1'_2
  clear V_w1'_2
  refine (CG.out _ (LH.out.below V_w1')).mono ?_
  rintro e w2' ⟨rfl, u_w2'⟩
  replace B_a := B_a.below u_w2'
  replace B_r := B_r.below u_w2'
  have S_w2' := u_w2'.size
  have V_w2' : Below w.heap.size w w2' := V_w1'.trans (u_w2'.mono V_w1'.size)
  clear V_w1'
  clear u_w2'
  cases b0
  · skip
    have e_a_0 : w2'.cell? ⟨w.heap.size, 0, none⟩ = some (.int .i64 a.P) := B_a.cell 0
    have e_a_1 : w2'.cell? ⟨w.heap.size, 1, none⟩ = some (.int .i64 a.party) := B_a.cell 1
    have e_a_2 : w2'.cell? ⟨w.heap.size, 2, none⟩ = some (.int .i64 a.input) := B_a.cell 2
    have e_a_3 : w2'.cell? ⟨w.heap.size, 3, none⟩ = some (.int .i64 a.mask) := B_a.cell 3
    have e_a_4 : w2'.cell? ⟨w.heap.size, 4, none⟩ = some (.int .i64 a.delta) := B_a.cell 4
    have e_a_5 : w2'.cell? ⟨w.heap.size, 5, none⟩ = some (.slice x.sa x.sn x.sc) := B_a.cell 5
    have e_a_6 : w2'.cell? ⟨w.heap.size, 6, none⟩ = some (.slice x.ka x.kn x.kc) := B_a.cell 6
    have e_a_7 : w2'.cell? ⟨w.heap.size, 7, none⟩ = some (.int .i64 a.step) := B_a.cell 7
    have e_a_8 : w2'.cell? ⟨w.heap.size, 8, none⟩ = some (.slice x.ha x.hn x.hc) := B_a.cell 8
    have e_a_9 : w2'.cell? ⟨w.heap.size, 9, none⟩ = some (.int .i64 a.status) := B_a.cell 9
    have e_a_10 : w2'.cell? ⟨w.heap.size, 10, none⟩ = some (.int .i64 a.out) := B_a.cell 10
    have e_r_0 : w2'.cell? ⟨w.heap.size + 1, 0, none⟩ = some (.int .i64 0) := B_r.cell 0
    have f_r_0 : w2'.frozen? ⟨w.heap.size + 1, 0, none⟩ = false := B_r.frozen 0
    have e_r_1 : w2'.cell? ⟨w.heap.size + 1, 1, none⟩ = some (.int .i64 0) := B_r.cell 1
    have f_r_1 : w2'.frozen? ⟨w.heap.size + 1, 1, none⟩ = false := B_r.frozen 1
    have e_r_2 : w2'.cell? ⟨w.heap.size + 1, 2, none⟩ = some (.int .i64 0) := B_r.cell 2
    have f_r_2 : w2'.frozen? ⟨w.heap.size + 1, 2, none⟩ = false := B_r.frozen 2
    have e_r_3 : w2'.cell? ⟨w.heap.size + 1, 3, none⟩ = some (.int .i64 0) := B_r.cell 3
    have f_r_3 : w2'.frozen? ⟨w.heap.size + 1, 3, none⟩ = false := B_r.frozen 3
    have e_r_4 : w2'.cell? ⟨w.heap.size + 1, 4, none⟩ = some (.int .i64 0) := B_r.cell 4
    have f_r_4 : w2'.frozen? ⟨w.heap.size + 1, 4, none⟩ = false := B_r.frozen 4
    have e_r_5 : w2'.cell? ⟨w.heap.size + 1, 5, none⟩ = some (.slice none 0 0) := B_r.cell 5
    have f_r_5 : w2'.frozen? ⟨w.heap.size + 1, 5, none⟩ = false := B_r.frozen 5
    have e_r_6 : w2'.cell? ⟨w.heap.size + 1, 6, none⟩ = some (.slice none 0 0) := B_r.cell 6
    have f_r_6 : w2'.frozen? ⟨w.heap.size + 1, 6, none⟩ = false := B_r.frozen 6
    have e_r_7 : w2'.cell? ⟨w.heap.size + 1, 7, none⟩ = some (.int .i64 0) := B_r.cell 7
    have f_r_7 : w2'.frozen? ⟨w.heap.size + 1, 7, none⟩ = false := B_r.frozen 7
    have e_r_8 : w2'.cell? ⟨w.heap.size + 1, 8, none⟩ = some (.slice none 0 0) := B_r.cell 8
    have f_r_8 : w2'.frozen? ⟨w.heap.size + 1, 8, none⟩ = false := B_r.frozen 8
    have e_r_9 : w2'.cell? ⟨w.heap.size + 1, 9, none⟩ = some (.int .i64 0) := B_r.cell 9
    have f_r_9 : w2'.frozen? ⟨w.heap.size + 1, 9, none⟩ = false := B_r.frozen 9
    have e_r_10 : w2'.cell? ⟨w.heap.size + 1, 10, none⟩ = some (.int .i64 0) := B_r.cell 10
    have f_r_10 : w2'.frozen? ⟨w.heap.size + 1, 10, none⟩ = false := B_r.frozen 10
    go_wp2
    clear e_a_0 e_a_1 e_a_2 e_a_3 e_a_4 e_a_5 e_a_6 e_a_7 e_a_8 e_a_9 e_a_10 e_r_0 f_r_0 e_r_1 f_r_1 e_r_2 f_r_2 e_r_3 f_r_3 e_r_4 f_r_4 e_r_5 f_r_5 e_r_6 f_r_6 e_r_7 f_r_7 e_r_8 f_r_8 e_r_9 f_r_9 e_r_10 f_r_10
    have g_1 : Only [w.heap.size + 1] w2' (w2'.setCell ⟨w.heap.size + 1, 0, none⟩ (.int .i64 0)) := (Only.refl _ _).setCell _ _ (by simp)
    replace B_r := B_r.set_ 0 (.int .i64 0)
    generalize w2'.setCell ⟨w.heap.size + 1, 0, none⟩ (.int .i64 0) = w3_1' at *
    have G := g_1
    clear g_1
    have g_2 : Only [w.heap.size + 1] w3_1' (w3_1'.setCell ⟨w.heap.size + 1, 1, none⟩ (.int .i64 0)) := (Only.refl _ _).setCell _ _ (by simp)
    replace B_r := B_r.set_ 1 (.int .i64 0)
    generalize w3_1'.setCell ⟨w.heap.size + 1, 1, none⟩ (.int .i64 0) = w3_2' at *
    replace G := G.trans g_2
    clear g_2
    have g_3 : Only [w.heap.size + 1] w3_2' (w3_2'.setCell ⟨w.heap.size + 1, 2, none⟩ (.int .i64 0)) := (Only.refl _ _).setCell _ _ (by simp)
    replace B_r := B_r.set_ 2 (.int .i64 0)
    generalize w3_2'.setCell ⟨w.heap.size + 1, 2, none⟩ (.int .i64 0) = w3_3' at *
    replace G := G.trans g_3
    clear g_3
    have g_4 : Only [w.heap.size + 1] w3_3' (w3_3'.setCell ⟨w.heap.size + 1, 3, none⟩ (.int .i64 0)) := (Only.refl _ _).setCell _ _ (by simp)
    replace B_r := B_r.set_ 3 (.int .i64 0)
    generalize w3_3'.setCell ⟨w.heap.size + 1, 3, none⟩ (.int .i64 0) = w3_4' at *
    replace G := G.trans g_4
    clear g_4
    have g_5 : Only [w.heap.size + 1] w3_4' (w3_4'.setCell ⟨w.heap.size + 1, 4, none⟩ (.int .i64 0)) := (Only.refl _ _).setCell _ _ (by simp)
    replace B_r := B_r.set_ 4 (.int .i64 0)
    generalize w3_4'.setCell ⟨w.heap.size + 1, 4, none⟩ (.int .i64 0) = w3_5' at *
    replace G := G.trans g_5
    clear g_5
    have g_6 : Only [w.heap.size + 1] w3_5' (w3_5'.setCell ⟨w.heap.size + 1, 5, none⟩ (.slice none 0 0)) := (Only.refl _ _).setCell _ _ (by simp)
    replace B_r := B_r.set_ 5 (.slice none 0 0)
    generalize w3_5'.setCell ⟨w.heap.size + 1, 5, none⟩ (.slice none 0 0) = w3_6' at *
    replace G := G.trans g_6
    clear g_6
    have g_7 : Only [w.heap.size + 1] w3_6' (w3_6'.setCell ⟨w.heap.size + 1, 6, none⟩ (.slice none 0 0)) := (Only.refl _ _).setCell _ _ (by simp)
    replace B_r := B_r.set_ 6 (.slice none 0 0)
    generalize w3_6'.setCell ⟨w.heap.size + 1, 6, none⟩ (.slice none 0 0) = w3_7' at *
    replace G := G.trans g_7
    clear g_7
    have g_8 : Only [w.heap.size + 1] w3_7' (w3_7'.setCell ⟨w.heap.size + 1, 7, none⟩ (.int .i64 0)) := (Only.refl _ _).setCell _ _ (by simp)
    replace B_r := B_r.set_ 7 (.int .i64 0)
    generalize w3_7'.setCell ⟨w.heap.size + 1, 7, none⟩ (.int .i64 0) = w3_8' at *
    replace G := G.trans g_8
    clear g_8
    have g_9 : Only [w.heap.size + 1] w3_8' (w3_8'.setCell ⟨w.heap.size + 1, 8, none⟩ (.slice none 0 0)) := (Only.refl _ _).setCell _ _ (by simp)
    replace B_r := B_r.set_ 8 (.slice none 0 0)
    generalize w3_8'.setCell ⟨w.heap.size + 1, 8, none⟩ (.slice none 0 0) = w3_9' at *
    replace G := G.trans g_9
    clear g_9
    have g_10 : Only [w.heap.size + 1] w3_9' (w3_9'.setCell ⟨w.heap.size + 1, 9, none⟩ (.int .i64 0)) := (Only.refl _ _).setCell _ _ (by simp)
    replace B_r := B_r.set_ 9 (.int .i64 0)
    generalize w3_9'.setCell ⟨w.heap.size + 1, 9, none⟩ (.int .i64 0) = w3_10' at *
    replace G := G.trans g_10
    clear g_10
    have g_11 : Only [w.heap.size + 1] w3_10' (w3_10'.setCell ⟨w.heap.size + 1, 10, none⟩ (.int .i64 0)) := (Only.refl _ _).setCell _ _ (by simp)
    replace B_r := B_r.set_ 10 (.int .i64 0)
    generalize w3_10'.setCell ⟨w.heap.size + 1, 10, none⟩ (.int .i64 0) = w3' at *
    replace G := G.trans g_11
    clear g_11
    simp only [List.setIfInBounds_toArray, List.set_cons_zero, List.set_cons_succ] at B_r
    have V_w3' : Below w.heap.size w w3' := (V_w2').trans (G.below (V_w2').size (fun q hq => by have := (V_w2').size; simp at hq; omega))
    replace B_a := B_a.only G (by first | (simp; done) | (simp; omega))
    have sG0 := G.size
    clear G
    clear V_w2'
    have S_w3' : w2'.heap.size + 0 ≤ w3'.heap.size := by omega
    clear sG0
    have e_r_0 : w3'.cell? ⟨w.heap.size + 1, 0, none⟩ = some (.int .i64 0) := B_r.cell 0
    have e_r_1 : w3'.cell? ⟨w.heap.size + 1, 1, none⟩ = some (.int .i64 0) := B_r.cell 1
    have e_r_2 : w3'.cell? ⟨w.heap.size + 1, 2, none⟩ = some (.int .i64 0) := B_r.cell 2
    have e_r_3 : w3'.cell? ⟨w.heap.size + 1, 3, none⟩ = some (.int .i64 0) := B_r.cell 3
    have e_r_4 : w3'.cell? ⟨w.heap.size + 1, 4, none⟩ = some (.int .i64 0) := B_r.cell 4
    have e_r_5 : w3'.cell? ⟨w.heap.size + 1, 5, none⟩ = some (.slice none 0 0) := B_r.cell 5
    have e_r_6 : w3'.cell? ⟨w.heap.size + 1, 6, none⟩ = some (.slice none 0 0) := B_r.cell 6
    have e_r_7 : w3'.cell? ⟨w.heap.size + 1, 7, none⟩ = some (.int .i64 0) := B_r.cell 7
    have e_r_8 : w3'.cell? ⟨w.heap.size + 1, 8, none⟩ = some (.slice none 0 0) := B_r.cell 8
    have e_r_9 : w3'.cell? ⟨w.heap.size + 1, 9, none⟩ = some (.int .i64 0) := B_r.cell 9
    have e_r_10 : w3'.cell? ⟨w.heap.size + 1, 10, none⟩ = some (.int .i64 0) := B_r.cell 10
    exact bodyPost_ret (v := .tuple #[.agg #[.int .i64 0, .int .i64 0, .int .i64 0, .int .i64 0, .int .i64 0, .slice none 0 0, .slice none 0 0, .int .i64 0, .slice none 0 0, .int .i64 0, .int .i64 0], .bool false]) (by simp [results, Tryd.results42, go_sem, e_r_0, e_r_1, e_r_2, e_r_3, e_r_4, e_r_5, e_r_6, e_r_7, e_r_8, e_r_9, e_r_10]) rfl (by first | exact ⟨zeroX, [], rfl, PlO.nil _ _, V_w3'⟩ | exact ⟨zeroX, rfl, ⟨[], PlO.nil _ _⟩, V_w3'⟩)
  obtain ⟨rg1, rg2⟩ := rng.out (by first | rfl | trivial)
  have t1 : IntKind.i64.wrap (a.step + a.status) = a.step + a.status := IntWalk.i64_in _ (by omega)
  cases b1
  · have d1 : ((a.step + a.status != 0) : Bool) = true := by have := HB1.out; simp at this; simp; omega
    have e_a_0 : w2'.cell? ⟨w.heap.size, 0, none⟩ = some (.int .i64 a.P) := B_a.cell 0
    have e_a_1 : w2'.cell? ⟨w.heap.size, 1, none⟩ = some (.int .i64 a.party) := B_a.cell 1
    have e_a_2 : w2'.cell? ⟨w.heap.size, 2, none⟩ = some (.int .i64 a.input) := B_a.cell 2
    have e_a_3 : w2'.cell? ⟨w.heap.size, 3, none⟩ = some (.int .i64 a.mask) := B_a.cell 3
    have e_a_4 : w2'.cell? ⟨w.heap.size, 4, none⟩ = some (.int .i64 a.delta) := B_a.cell 4
    have e_a_5 : w2'.cell? ⟨w.heap.size, 5, none⟩ = some (.slice x.sa x.sn x.sc) := B_a.cell 5
    have e_a_6 : w2'.cell? ⟨w.heap.size, 6, none⟩ = some (.slice x.ka x.kn x.kc) := B_a.cell 6
    have e_a_7 : w2'.cell? ⟨w.heap.size, 7, none⟩ = some (.int .i64 a.step) := B_a.cell 7
    have e_a_8 : w2'.cell? ⟨w.heap.size, 8, none⟩ = some (.slice x.ha x.hn x.hc) := B_a.cell 8
    have e_a_9 : w2'.cell? ⟨w.heap.size, 9, none⟩ = some (.int .i64 a.status) := B_a.cell 9
    have e_a_10 : w2'.cell? ⟨w.heap.size, 10, none⟩ = some (.int .i64 a.out) := B_a.cell 10
    have e_r_0 : w2'.cell? ⟨w.heap.size + 1, 0, none⟩ = some (.int .i64 0) := B_r.cell 0
    have f_r_0 : w2'.frozen? ⟨w.heap.size + 1, 0, none⟩ = false := B_r.frozen 0
    have e_r_1 : w2'.cell? ⟨w.heap.size + 1, 1, none⟩ = some (.int .i64 0) := B_r.cell 1
    have f_r_1 : w2'.frozen? ⟨w.heap.size + 1, 1, none⟩ = false := B_r.frozen 1
    have e_r_2 : w2'.cell? ⟨w.heap.size + 1, 2, none⟩ = some (.int .i64 0) := B_r.cell 2
    have f_r_2 : w2'.frozen? ⟨w.heap.size + 1, 2, none⟩ = false := B_r.frozen 2
    have e_r_3 : w2'.cell? ⟨w.heap.size + 1, 3, none⟩ = some (.int .i64 0) := B_r.cell 3
    have f_r_3 : w2'.frozen? ⟨w.heap.size + 1, 3, none⟩ = false := B_r.frozen 3
    have e_r_4 : w2'.cell? ⟨w.heap.size + 1, 4, none⟩ = some (.int .i64 0) := B_r.cell 4
    have f_r_4 : w2'.frozen? ⟨w.heap.size + 1, 4, none⟩ = false := B_r.frozen 4
    have e_r_5 : w2'.cell? ⟨w.heap.size + 1, 5, none⟩ = some (.slice none 0 0) := B_r.cell 5
    have f_r_5 : w2'.frozen? ⟨w.heap.size + 1, 5, none⟩ = false := B_r.frozen 5
    have e_r_6 : w2'.cell? ⟨w.heap.size + 1, 6, none⟩ = some (.slice none 0 0) := B_r.cell 6
    have f_r_6 : w2'.frozen? ⟨w.heap.size + 1, 6, none⟩ = false := B_r.frozen 6
    have e_r_7 : w2'.cell? ⟨w.heap.size + 1, 7, none⟩ = some (.int .i64 0) := B_r.cell 7
    have f_r_7 : w2'.frozen? ⟨w.heap.size + 1, 7, none⟩ = false := B_r.frozen 7
    have e_r_8 : w2'.cell? ⟨w.heap.size + 1, 8, none⟩ = some (.slice none 0 0) := B_r.cell 8
    have f_r_8 : w2'.frozen? ⟨w.heap.size + 1, 8, none⟩ = false := B_r.frozen 8
    have e_r_9 : w2'.cell? ⟨w.heap.size + 1, 9, none⟩ = some (.int .i64 0) := B_r.cell 9
    have f_r_9 : w2'.frozen? ⟨w.heap.size + 1, 9, none⟩ = false := B_r.frozen 9
    have e_r_10 : w2'.cell? ⟨w.heap.size + 1, 10, none⟩ = some (.int .i64 0) := B_r.cell 10
    have f_r_10 : w2'.frozen? ⟨w.heap.size + 1, 10, none⟩ = false := B_r.frozen 10
    go_wp2
    clear e_a_0 e_a_1 e_a_2 e_a_3 e_a_4 e_a_5 e_a_6 e_a_7 e_a_8 e_a_9 e_a_10 e_r_0 f_r_0 e_r_1 f_r_1 e_r_2 f_r_2 e_r_3 f_r_3 e_r_4 f_r_4 e_r_5 f_r_5 e_r_6 f_r_6 e_r_7 f_r_7 e_r_8 f_r_8 e_r_9 f_r_9 e_r_10 f_r_10
    have g_1 : Only [w.heap.size + 1] w2' (w2'.setCell ⟨w.heap.size + 1, 0, none⟩ (.int .i64 0)) := (Only.refl _ _).setCell _ _ (by simp)
    replace B_r := B_r.set_ 0 (.int .i64 0)
    generalize w2'.setCell ⟨w.heap.size + 1, 0, none⟩ (.int .i64 0) = w4_1' at *
    have G := g_1
    clear g_1
    have g_2 : Only [w.heap.size + 1] w4_1' (w4_1'.setCell ⟨w.heap.size + 1, 1, none⟩ (.int .i64 0)) := (Only.refl _ _).setCell _ _ (by simp)
    replace B_r := B_r.set_ 1 (.int .i64 0)
    generalize w4_1'.setCell ⟨w.heap.size + 1, 1, none⟩ (.int .i64 0) = w4_2' at *
    replace G := G.trans g_2
    clear g_2
    have g_3 : Only [w.heap.size + 1] w4_2' (w4_2'.setCell ⟨w.heap.size + 1, 2, none⟩ (.int .i64 0)) := (Only.refl _ _).setCell _ _ (by simp)
    replace B_r := B_r.set_ 2 (.int .i64 0)
    generalize w4_2'.setCell ⟨w.heap.size + 1, 2, none⟩ (.int .i64 0) = w4_3' at *
    replace G := G.trans g_3
    clear g_3
    have g_4 : Only [w.heap.size + 1] w4_3' (w4_3'.setCell ⟨w.heap.size + 1, 3, none⟩ (.int .i64 0)) := (Only.refl _ _).setCell _ _ (by simp)
    replace B_r := B_r.set_ 3 (.int .i64 0)
    generalize w4_3'.setCell ⟨w.heap.size + 1, 3, none⟩ (.int .i64 0) = w4_4' at *
    replace G := G.trans g_4
    clear g_4
    have g_5 : Only [w.heap.size + 1] w4_4' (w4_4'.setCell ⟨w.heap.size + 1, 4, none⟩ (.int .i64 0)) := (Only.refl _ _).setCell _ _ (by simp)
    replace B_r := B_r.set_ 4 (.int .i64 0)
    generalize w4_4'.setCell ⟨w.heap.size + 1, 4, none⟩ (.int .i64 0) = w4_5' at *
    replace G := G.trans g_5
    clear g_5
    have g_6 : Only [w.heap.size + 1] w4_5' (w4_5'.setCell ⟨w.heap.size + 1, 5, none⟩ (.slice none 0 0)) := (Only.refl _ _).setCell _ _ (by simp)
    replace B_r := B_r.set_ 5 (.slice none 0 0)
    generalize w4_5'.setCell ⟨w.heap.size + 1, 5, none⟩ (.slice none 0 0) = w4_6' at *
    replace G := G.trans g_6
    clear g_6
    have g_7 : Only [w.heap.size + 1] w4_6' (w4_6'.setCell ⟨w.heap.size + 1, 6, none⟩ (.slice none 0 0)) := (Only.refl _ _).setCell _ _ (by simp)
    replace B_r := B_r.set_ 6 (.slice none 0 0)
    generalize w4_6'.setCell ⟨w.heap.size + 1, 6, none⟩ (.slice none 0 0) = w4_7' at *
    replace G := G.trans g_7
    clear g_7
    have g_8 : Only [w.heap.size + 1] w4_7' (w4_7'.setCell ⟨w.heap.size + 1, 7, none⟩ (.int .i64 0)) := (Only.refl _ _).setCell _ _ (by simp)
    replace B_r := B_r.set_ 7 (.int .i64 0)
    generalize w4_7'.setCell ⟨w.heap.size + 1, 7, none⟩ (.int .i64 0) = w4_8' at *
    replace G := G.trans g_8
    clear g_8
    have g_9 : Only [w.heap.size + 1] w4_8' (w4_8'.setCell ⟨w.heap.size + 1, 8, none⟩ (.slice none 0 0)) := (Only.refl _ _).setCell _ _ (by simp)
    replace B_r := B_r.set_ 8 (.slice none 0 0)
    generalize w4_8'.setCell ⟨w.heap.size + 1, 8, none⟩ (.slice none 0 0) = w4_9' at *
    replace G := G.trans g_9
    clear g_9
    have g_10 : Only [w.heap.size + 1] w4_9' (w4_9'.setCell ⟨w.heap.size + 1, 9, none⟩ (.int .i64 0)) := (Only.refl _ _).setCell _ _ (by simp)
    replace B_r := B_r.set_ 9 (.int .i64 0)
    generalize w4_9'.setCell ⟨w.heap.size + 1, 9, none⟩ (.int .i64 0) = w4_10' at *
    replace G := G.trans g_10
    clear g_10
    have g_11 : Only [w.heap.size + 1] w4_10' (w4_10'.setCell ⟨w.heap.size + 1, 10, none⟩ (.int .i64 0)) := (Only.refl _ _).setCell _ _ (by simp)
    replace B_r := B_r.set_ 10 (.int .i64 0)
    generalize w4_10'.setCell ⟨w.heap.size + 1, 10, none⟩ (.int .i64 0) = w4' at *
    replace G := G.trans g_11
    clear g_11
    simp only [List.setIfInBounds_toArray, List.set_cons_zero, List.set_cons_succ] at B_r
    have V_w4' : Below w.heap.size w w4' := (V_w2').trans (G.below (V_w2').size (fun q hq => by have := (V_w2').size; simp at hq; omega))
    replace B_a := B_a.only G (by first | (simp; done) | (simp; omega))
    have sG0 := G.size
    clear G
    clear V_w2'
    have S_w4' : w2'.heap.size + 0 ≤ w4'.heap.size := by omega
    clear sG0
    have e_r_0 : w4'.cell? ⟨w.heap.size + 1, 0, none⟩ = some (.int .i64 0) := B_r.cell 0
    have e_r_1 : w4'.cell? ⟨w.heap.size + 1, 1, none⟩ = some (.int .i64 0) := B_r.cell 1
    have e_r_2 : w4'.cell? ⟨w.heap.size + 1, 2, none⟩ = some (.int .i64 0) := B_r.cell 2
    have e_r_3 : w4'.cell? ⟨w.heap.size + 1, 3, none⟩ = some (.int .i64 0) := B_r.cell 3
    have e_r_4 : w4'.cell? ⟨w.heap.size + 1, 4, none⟩ = some (.int .i64 0) := B_r.cell 4
    have e_r_5 : w4'.cell? ⟨w.heap.size + 1, 5, none⟩ = some (.slice none 0 0) := B_r.cell 5
    have e_r_6 : w4'.cell? ⟨w.heap.size + 1, 6, none⟩ = some (.slice none 0 0) := B_r.cell 6
    have e_r_7 : w4'.cell? ⟨w.heap.size + 1, 7, none⟩ = some (.int .i64 0) := B_r.cell 7
    have e_r_8 : w4'.cell? ⟨w.heap.size + 1, 8, none⟩ = some (.slice none 0 0) := B_r.cell 8
    have e_r_9 : w4'.cell? ⟨w.heap.size + 1, 9, none⟩ = some (.int .i64 0) := B_r.cell 9
    have e_r_10 : w4'.cell? ⟨w.heap.size + 1, 10, none⟩ = some (.int .i64 0) := B_r.cell 10
    exact bodyPost_ret (v := .tuple #[.agg #[.int .i64 0, .int .i64 0, .int .i64 0, .int .i64 0, .int .i64 0, .slice none 0 0, .slice none 0 0, .int .i64 0, .slice none 0 0, .int .i64 0, .int .i64 0], .bool false]) (by simp [results, Tryd.results42, go_sem, e_r_0, e_r_1, e_r_2, e_r_3, e_r_4, e_r_5, e_r_6, e_r_7, e_r_8, e_r_9, e_r_10]) rfl (by first | exact ⟨zeroX, [], rfl, PlO.nil _ _, V_w4'⟩ | exact ⟨zeroX, rfl, ⟨[], PlO.nil _ _⟩, V_w4'⟩)
  have h1 : a.step = 0 := by simpa using HB1.out
  replace h1 := Lib.hid h1
  cases b2
  · have d1 : ((a.step + a.status != 0) : Bool) = true := by have := HB2.out; have := h1.out; simp at *; omega
    have e_a_0 : w2'.cell? ⟨w.heap.size, 0, none⟩ = some (.int .i64 a.P) := B_a.cell 0
    have e_a_1 : w2'.cell? ⟨w.heap.size, 1, none⟩ = some (.int .i64 a.party) := B_a.cell 1
    have e_a_2 : w2'.cell? ⟨w.heap.size, 2, none⟩ = some (.int .i64 a.input) := B_a.cell 2
    have e_a_3 : w2'.cell? ⟨w.heap.size, 3, none⟩ = some (.int .i64 a.mask) := B_a.cell 3
    have e_a_4 : w2'.cell? ⟨w.heap.size, 4, none⟩ = some (.int .i64 a.delta) := B_a.cell 4
    have e_a_5 : w2'.cell? ⟨w.heap.size, 5, none⟩ = some (.slice x.sa x.sn x.sc) := B_a.cell 5
    have e_a_6 : w2'.cell? ⟨w.heap.size, 6, none⟩ = some (.slice x.ka x.kn x.kc) := B_a.cell 6
    have e_a_7 : w2'.cell? ⟨w.heap.size, 7, none⟩ = some (.int .i64 a.step) := B_a.cell 7
    have e_a_8 : w2'.cell? ⟨w.heap.size, 8, none⟩ = some (.slice x.ha x.hn x.hc) := B_a.cell 8
    have e_a_9 : w2'.cell? ⟨w.heap.size, 9, none⟩ = some (.int .i64 a.status) := B_a.cell 9
    have e_a_10 : w2'.cell? ⟨w.heap.size, 10, none⟩ = some (.int .i64 a.out) := B_a.cell 10
    have e_r_0 : w2'.cell? ⟨w.heap.size + 1, 0, none⟩ = some (.int .i64 0) := B_r.cell 0
    have f_r_0 : w2'.frozen? ⟨w.heap.size + 1, 0, none⟩ = false := B_r.frozen 0
    have e_r_1 : w2'.cell? ⟨w.heap.size + 1, 1, none⟩ = some (.int .i64 0) := B_r.cell 1
    have f_r_1 : w2'.frozen? ⟨w.heap.size + 1, 1, none⟩ = false := B_r.frozen 1
    have e_r_2 : w2'.cell? ⟨w.heap.size + 1, 2, none⟩ = some (.int .i64 0) := B_r.cell 2
    have f_r_2 : w2'.frozen? ⟨w.heap.size + 1, 2, none⟩ = false := B_r.frozen 2
    have e_r_3 : w2'.cell? ⟨w.heap.size + 1, 3, none⟩ = some (.int .i64 0) := B_r.cell 3
    have f_r_3 : w2'.frozen? ⟨w.heap.size + 1, 3, none⟩ = false := B_r.frozen 3
    have e_r_4 : w2'.cell? ⟨w.heap.size + 1, 4, none⟩ = some (.int .i64 0) := B_r.cell 4
    have f_r_4 : w2'.frozen? ⟨w.heap.size + 1, 4, none⟩ = false := B_r.frozen 4
    have e_r_5 : w2'.cell? ⟨w.heap.size + 1, 5, none⟩ = some (.slice none 0 0) := B_r.cell 5
    have f_r_5 : w2'.frozen? ⟨w.heap.size + 1, 5, none⟩ = false := B_r.frozen 5
    have e_r_6 : w2'.cell? ⟨w.heap.size + 1, 6, none⟩ = some (.slice none 0 0) := B_r.cell 6
    have f_r_6 : w2'.frozen? ⟨w.heap.size + 1, 6, none⟩ = false := B_r.frozen 6
    have e_r_7 : w2'.cell? ⟨w.heap.size + 1, 7, none⟩ = some (.int .i64 0) := B_r.cell 7
    have f_r_7 : w2'.frozen? ⟨w.heap.size + 1, 7, none⟩ = false := B_r.frozen 7
    have e_r_8 : w2'.cell? ⟨w.heap.size + 1, 8, none⟩ = some (.slice none 0 0) := B_r.cell 8
    have f_r_8 : w2'.frozen? ⟨w.heap.size + 1, 8, none⟩ = false := B_r.frozen 8
    have e_r_9 : w2'.cell? ⟨w.heap.size + 1, 9, none⟩ = some (.int .i64 0) := B_r.cell 9
    have f_r_9 : w2'.frozen? ⟨w.heap.size + 1, 9, none⟩ = false := B_r.frozen 9
    have e_r_10 : w2'.cell? ⟨w.heap.size + 1, 10, none⟩ = some (.int .i64 0) := B_r.cell 10
    have f_r_10 : w2'.frozen? ⟨w.heap.size + 1, 10, none⟩ = false := B_r.frozen 10
    go_wp2
    clear e_a_0 e_a_1 e_a_2 e_a_3 e_a_4 e_a_5 e_a_6 e_a_7 e_a_8 e_a_9 e_a_10 e_r_0 f_r_0 e_r_1 f_r_1 e_r_2 f_r_2 e_r_3 f_r_3 e_r_4 f_r_4 e_r_5 f_r_5 e_r_6 f_r_6 e_r_7 f_r_7 e_r_8 f_r_8 e_r_9 f_r_9 e_r_10 f_r_10
    have g_1 : Only [w.heap.size + 1] w2' (w2'.setCell ⟨w.heap.size + 1, 0, none⟩ (.int .i64 0)) := (Only.refl _ _).setCell _ _ (by simp)
    replace B_r := B_r.set_ 0 (.int .i64 0)
    generalize w2'.setCell ⟨w.heap.size + 1, 0, none⟩ (.int .i64 0) = w5_1' at *
    have G := g_1
    clear g_1
    have g_2 : Only [w.heap.size + 1] w5_1' (w5_1'.setCell ⟨w.heap.size + 1, 1, none⟩ (.int .i64 0)) := (Only.refl _ _).setCell _ _ (by simp)
    replace B_r := B_r.set_ 1 (.int .i64 0)
    generalize w5_1'.setCell ⟨w.heap.size + 1, 1, none⟩ (.int .i64 0) = w5_2' at *
    replace G := G.trans g_2
    clear g_2
    have g_3 : Only [w.heap.size + 1] w5_2' (w5_2'.setCell ⟨w.heap.size + 1, 2, none⟩ (.int .i64 0)) := (Only.refl _ _).setCell _ _ (by simp)
    replace B_r := B_r.set_ 2 (.int .i64 0)
    generalize w5_2'.setCell ⟨w.heap.size + 1, 2, none⟩ (.int .i64 0) = w5_3' at *
    replace G := G.trans g_3
    clear g_3
    have g_4 : Only [w.heap.size + 1] w5_3' (w5_3'.setCell ⟨w.heap.size + 1, 3, none⟩ (.int .i64 0)) := (Only.refl _ _).setCell _ _ (by simp)
    replace B_r := B_r.set_ 3 (.int .i64 0)
    generalize w5_3'.setCell ⟨w.heap.size + 1, 3, none⟩ (.int .i64 0) = w5_4' at *
    replace G := G.trans g_4
    clear g_4
    have g_5 : Only [w.heap.size + 1] w5_4' (w5_4'.setCell ⟨w.heap.size + 1, 4, none⟩ (.int .i64 0)) := (Only.refl _ _).setCell _ _ (by simp)
    replace B_r := B_r.set_ 4 (.int .i64 0)
    generalize w5_4'.setCell ⟨w.heap.size + 1, 4, none⟩ (.int .i64 0) = w5_5' at *
    replace G := G.trans g_5
    clear g_5
    have g_6 : Only [w.heap.size + 1] w5_5' (w5_5'.setCell ⟨w.heap.size + 1, 5, none⟩ (.slice none 0 0)) := (Only.refl _ _).setCell _ _ (by simp)
    replace B_r := B_r.set_ 5 (.slice none 0 0)
    generalize w5_5'.setCell ⟨w.heap.size + 1, 5, none⟩ (.slice none 0 0) = w5_6' at *
    replace G := G.trans g_6
    clear g_6
    have g_7 : Only [w.heap.size + 1] w5_6' (w5_6'.setCell ⟨w.heap.size + 1, 6, none⟩ (.slice none 0 0)) := (Only.refl _ _).setCell _ _ (by simp)
    replace B_r := B_r.set_ 6 (.slice none 0 0)
    generalize w5_6'.setCell ⟨w.heap.size + 1, 6, none⟩ (.slice none 0 0) = w5_7' at *
    replace G := G.trans g_7
    clear g_7
    have g_8 : Only [w.heap.size + 1] w5_7' (w5_7'.setCell ⟨w.heap.size + 1, 7, none⟩ (.int .i64 0)) := (Only.refl _ _).setCell _ _ (by simp)
    replace B_r := B_r.set_ 7 (.int .i64 0)
    generalize w5_7'.setCell ⟨w.heap.size + 1, 7, none⟩ (.int .i64 0) = w5_8' at *
    replace G := G.trans g_8
    clear g_8
    have g_9 : Only [w.heap.size + 1] w5_8' (w5_8'.setCell ⟨w.heap.size + 1, 8, none⟩ (.slice none 0 0)) := (Only.refl _ _).setCell _ _ (by simp)
    replace B_r := B_r.set_ 8 (.slice none 0 0)
    generalize w5_8'.setCell ⟨w.heap.size + 1, 8, none⟩ (.slice none 0 0) = w5_9' at *
    replace G := G.trans g_9
    clear g_9
    have g_10 : Only [w.heap.size + 1] w5_9' (w5_9'.setCell ⟨w.heap.size + 1, 9, none⟩ (.int .i64 0)) := (Only.refl _ _).setCell _ _ (by simp)
    replace B_r := B_r.set_ 9 (.int .i64 0)
    generalize w5_9'.setCell ⟨w.heap.size + 1, 9, none⟩ (.int .i64 0) = w5_10' at *
    replace G := G.trans g_10
    clear g_10
    have g_11 : Only [w.heap.size + 1] w5_10' (w5_10'.setCell ⟨w.heap.size + 1, 10, none⟩ (.int .i64 0)) := (Only.refl _ _).setCell _ _ (by simp)
    replace B_r := B_r.set_ 10 (.int .i64 0)
    generalize w5_10'.setCell ⟨w.heap.size + 1, 10, none⟩ (.int .i64 0) = w5' at *
    replace G := G.trans g_11
    clear g_11
    simp only [List.setIfInBounds_toArray, List.set_cons_zero, List.set_cons_succ] at B_r
    have V_w5' : Below w.heap.size w w5' := (V_w2').trans (G.below (V_w2').size (fun q hq => by have := (V_w2').size; simp at hq; omega))
    replace B_a := B_a.only G (by first | (simp; done) | (simp; omega))
    have sG0 := G.size
    clear G
    clear V_w2'
    have S_w5' : w2'.heap.size + 0 ≤ w5'.heap.size := by omega
    clear sG0
    have e_r_0 : w5'.cell? ⟨w.heap.size + 1, 0, none⟩ = some (.int .i64 0) := B_r.cell 0
    have e_r_1 : w5'.cell? ⟨w.heap.size + 1, 1, none⟩ = some (.int .i64 0) := B_r.cell 1
    have e_r_2 : w5'.cell? ⟨w.heap.size + 1, 2, none⟩ = some (.int .i64 0) := B_r.cell 2
    have e_r_3 : w5'.cell? ⟨w.heap.size + 1, 3, none⟩ = some (.int .i64 0) := B_r.cell 3
    have e_r_4 : w5'.cell? ⟨w.heap.size + 1, 4, none⟩ = some (.int .i64 0) := B_r.cell 4
    have e_r_5 : w5'.cell? ⟨w.heap.size + 1, 5, none⟩ = some (.slice none 0 0) := B_r.cell 5
    have e_r_6 : w5'.cell? ⟨w.heap.size + 1, 6, none⟩ = some (.slice none 0 0) := B_r.cell 6
    have e_r_7 : w5'.cell? ⟨w.heap.size + 1, 7, none⟩ = some (.int .i64 0) := B_r.cell 7
    have e_r_8 : w5'.cell? ⟨w.heap.size + 1, 8, none⟩ = some (.slice none 0 0) := B_r.cell 8
    have e_r_9 : w5'.cell? ⟨w.heap.size + 1, 9, none⟩ = some (.int .i64 0) := B_r.cell 9
    have e_r_10 : w5'.cell? ⟨w.heap.size + 1, 10, none⟩ = some (.int .i64 0) := B_r.cell 10
    exact bodyPost_ret (v := .tuple #[.agg #[.int .i64 0, .int .i64 0, .int .i64 0, .int .i64 0, .int .i64 0, .slice none 0 0, .slice none 0 0, .int .i64 0, .slice none 0 0, .int .i64 0, .int .i64 0], .bool false]) (by simp [results, Tryd.results42, go_sem, e_r_0, e_r_1, e_r_2, e_r_3, e_r_4, e_r_5, e_r_6, e_r_7, e_r_8, e_r_9, e_r_10]) rfl (by first | exact ⟨zeroX, [], rfl, PlO.nil _ _, V_w5'⟩ | exact ⟨zeroX, rfl, ⟨[], PlO.nil _ _⟩, V_w5'⟩)
  have h2 : a.status = 0 := by simpa using HB2.out
  have d1 : ((a.step + a.status != 0) : Bool) = false := by have := h1.out; simp; omega
  replace h2 := Lib.hid h2
  cases b3
  · have h6 : (6 : Int) < (n : Int) := by have := HB3.out; simp at this; omega
    have h6' : decide ((6 : Int) < (n : Int)) = true := by simpa using h6
    have e_a_0 : w2'.cell? ⟨w.heap.size, 0, none⟩ = some (.int .i64 a.P) := B_a.cell 0
    have e_a_1 : w2'.cell? ⟨w.heap.size, 1, none⟩ = some (.int .i64 a.party) := B_a.cell 1
    have e_a_2 : w2'.cell? ⟨w.heap.size, 2, none⟩ = some (.int .i64 a.input) := B_a.cell 2
    have e_a_3 : w2'.cell? ⟨w.heap.size, 3, none⟩ = some (.int .i64 a.mask) := B_a.cell 3
    have e_a_4 : w2'.cell? ⟨w.heap.size, 4, none⟩ = some (.int .i64 a.delta) := B_a.cell 4
    have e_a_5 : w2'.cell? ⟨w.heap.size, 5, none⟩ = some (.slice x.sa x.sn x.sc) := B_a.cell 5
    have e_a_6 : w2'.cell? ⟨w.heap.size, 6, none⟩ = some (.slice x.ka x.kn x.kc) := B_a.cell 6
    have e_a_7 : w2'.cell? ⟨w.heap.size, 7, none⟩ = some (.int .i64 a.step) := B_a.cell 7
    have e_a_8 : w2'.cell? ⟨w.heap.size, 8, none⟩ = some (.slice x.ha x.hn x.hc) := B_a.cell 8
    have e_a_9 : w2'.cell? ⟨w.heap.size, 9, none⟩ = some (.int .i64 a.status) := B_a.cell 9
    have e_a_10 : w2'.cell? ⟨w.heap.size, 10, none⟩ = some (.int .i64 a.out) := B_a.cell 10
    have e_r_0 : w2'.cell? ⟨w.heap.size + 1, 0, none⟩ = some (.int .i64 0) := B_r.cell 0
    have f_r_0 : w2'.frozen? ⟨w.heap.size + 1, 0, none⟩ = false := B_r.frozen 0
    have e_r_1 : w2'.cell? ⟨w.heap.size + 1, 1, none⟩ = some (.int .i64 0) := B_r.cell 1
    have f_r_1 : w2'.frozen? ⟨w.heap.size + 1, 1, none⟩ = false := B_r.frozen 1
    have e_r_2 : w2'.cell? ⟨w.heap.size + 1, 2, none⟩ = some (.int .i64 0) := B_r.cell 2
    have f_r_2 : w2'.frozen? ⟨w.heap.size + 1, 2, none⟩ = false := B_r.frozen 2
    have e_r_3 : w2'.cell? ⟨w.heap.size + 1, 3, none⟩ = some (.int .i64 0) := B_r.cell 3
    have f_r_3 : w2'.frozen? ⟨w.heap.size + 1, 3, none⟩ = false := B_r.frozen 3
    have e_r_4 : w2'.cell? ⟨w.heap.size + 1, 4, none⟩ = some (.int .i64 0) := B_r.cell 4
    have f_r_4 : w2'.frozen? ⟨w.heap.size + 1, 4, none⟩ = false := B_r.frozen 4
    have e_r_5 : w2'.cell? ⟨w.heap.size + 1, 5, none⟩ = some (.slice none 0 0) := B_r.cell 5
    have f_r_5 : w2'.frozen? ⟨w.heap.size + 1, 5, none⟩ = false := B_r.frozen 5
    have e_r_6 : w2'.cell? ⟨w.heap.size + 1, 6, none⟩ = some (.slice none 0 0) := B_r.cell 6
    have f_r_6 : w2'.frozen? ⟨w.heap.size + 1, 6, none⟩ = false := B_r.frozen 6
    have e_r_7 : w2'.cell? ⟨w.heap.size + 1, 7, none⟩ = some (.int .i64 0) := B_r.cell 7
    have f_r_7 : w2'.frozen? ⟨w.heap.size + 1, 7, none⟩ = false := B_r.frozen 7
    have e_r_8 : w2'.cell? ⟨w.heap.size + 1, 8, none⟩ = some (.slice none 0 0) := B_r.cell 8
    have f_r_8 : w2'.frozen? ⟨w.heap.size + 1, 8, none⟩ = false := B_r.frozen 8
    have e_r_9 : w2'.cell? ⟨w.heap.size + 1, 9, none⟩ = some (.int .i64 0) := B_r.cell 9
    have f_r_9 : w2'.frozen? ⟨w.heap.size + 1, 9, none⟩ = false := B_r.frozen 9
    have e_r_10 : w2'.cell? ⟨w.heap.size + 1, 10, none⟩ = some (.int .i64 0) := B_r.cell 10
    have f_r_10 : w2'.frozen? ⟨w.heap.size + 1, 10, none⟩ = false := B_r.frozen 10
    go_wp2
    clear e_a_0 e_a_1 e_a_2 e_a_3 e_a_4 e_a_5 e_a_6 e_a_7 e_a_8 e_a_9 e_a_10 e_r_0 f_r_0 e_r_1 f_r_1 e_r_2 f_r_2 e_r_3 f_r_3 e_r_4 f_r_4 e_r_5 f_r_5 e_r_6 f_r_6 e_r_7 f_r_7 e_r_8 f_r_8 e_r_9 f_r_9 e_r_10 f_r_10
    have g_1 : Only [w.heap.size + 1] w2' (w2'.setCell ⟨w.heap.size + 1, 0, none⟩ (.int .i64 0)) := (Only.refl _ _).setCell _ _ (by simp)
    replace B_r := B_r.set_ 0 (.int .i64 0)
    generalize w2'.setCell ⟨w.heap.size + 1, 0, none⟩ (.int .i64 0) = w6_1' at *
    have G := g_1
    clear g_1
    have g_2 : Only [w.heap.size + 1] w6_1' (w6_1'.setCell ⟨w.heap.size + 1, 1, none⟩ (.int .i64 0)) := (Only.refl _ _).setCell _ _ (by simp)
    replace B_r := B_r.set_ 1 (.int .i64 0)
    generalize w6_1'.setCell ⟨w.heap.size + 1, 1, none⟩ (.int .i64 0) = w6_2' at *
    replace G := G.trans g_2
    clear g_2
    have g_3 : Only [w.heap.size + 1] w6_2' (w6_2'.setCell ⟨w.heap.size + 1, 2, none⟩ (.int .i64 0)) := (Only.refl _ _).setCell _ _ (by simp)
    replace B_r := B_r.set_ 2 (.int .i64 0)
    generalize w6_2'.setCell ⟨w.heap.size + 1, 2, none⟩ (.int .i64 0) = w6_3' at *
    replace G := G.trans g_3
    clear g_3
    have g_4 : Only [w.heap.size + 1] w6_3' (w6_3'.setCell ⟨w.heap.size + 1, 3, none⟩ (.int .i64 0)) := (Only.refl _ _).setCell _ _ (by simp)
    replace B_r := B_r.set_ 3 (.int .i64 0)
    generalize w6_3'.setCell ⟨w.heap.size + 1, 3, none⟩ (.int .i64 0) = w6_4' at *
    replace G := G.trans g_4
    clear g_4
    have g_5 : Only [w.heap.size + 1] w6_4' (w6_4'.setCell ⟨w.heap.size + 1, 4, none⟩ (.int .i64 0)) := (Only.refl _ _).setCell _ _ (by simp)
    replace B_r := B_r.set_ 4 (.int .i64 0)
    generalize w6_4'.setCell ⟨w.heap.size + 1, 4, none⟩ (.int .i64 0) = w6_5' at *
    replace G := G.trans g_5
    clear g_5
    have g_6 : Only [w.heap.size + 1] w6_5' (w6_5'.setCell ⟨w.heap.size + 1, 5, none⟩ (.slice none 0 0)) := (Only.refl _ _).setCell _ _ (by simp)
    replace B_r := B_r.set_ 5 (.slice none 0 0)
    generalize w6_5'.setCell ⟨w.heap.size + 1, 5, none⟩ (.slice none 0 0) = w6_6' at *
    replace G := G.trans g_6
    clear g_6
    have g_7 : Only [w.heap.size + 1] w6_6' (w6_6'.setCell ⟨w.heap.size + 1, 6, none⟩ (.slice none 0 0)) := (Only.refl _ _).setCell _ _ (by simp)
    replace B_r := B_r.set_ 6 (.slice none 0 0)
    generalize w6_6'.setCell ⟨w.heap.size + 1, 6, none⟩ (.slice none 0 0) = w6_7' at *
    replace G := G.trans g_7
    clear g_7
    have g_8 : Only [w.heap.size + 1] w6_7' (w6_7'.setCell ⟨w.heap.size + 1, 7, none⟩ (.int .i64 0)) := (Only.refl _ _).setCell _ _ (by simp)
    replace B_r := B_r.set_ 7 (.int .i64 0)
    generalize w6_7'.setCell ⟨w.heap.size + 1, 7, none⟩ (.int .i64 0) = w6_8' at *
    replace G := G.trans g_8
    clear g_8
    have g_9 : Only [w.heap.size + 1] w6_8' (w6_8'.setCell ⟨w.heap.size + 1, 8, none⟩ (.slice none 0 0)) := (Only.refl _ _).setCell _ _ (by simp)
    replace B_r := B_r.set_ 8 (.slice none 0 0)
    generalize w6_8'.setCell ⟨w.heap.size + 1, 8, none⟩ (.slice none 0 0) = w6_9' at *
    replace G := G.trans g_9
    clear g_9
    have g_10 : Only [w.heap.size + 1] w6_9' (w6_9'.setCell ⟨w.heap.size + 1, 9, none⟩ (.int .i64 0)) := (Only.refl _ _).setCell _ _ (by simp)
    replace B_r := B_r.set_ 9 (.int .i64 0)
    generalize w6_9'.setCell ⟨w.heap.size + 1, 9, none⟩ (.int .i64 0) = w6_10' at *
    replace G := G.trans g_10
    clear g_10
    have g_11 : Only [w.heap.size + 1] w6_10' (w6_10'.setCell ⟨w.heap.size + 1, 10, none⟩ (.int .i64 0)) := (Only.refl _ _).setCell _ _ (by simp)
    replace B_r := B_r.set_ 10 (.int .i64 0)
    generalize w6_10'.setCell ⟨w.heap.size + 1, 10, none⟩ (.int .i64 0) = w6' at *
    replace G := G.trans g_11
    clear g_11
    simp only [List.setIfInBounds_toArray, List.set_cons_zero, List.set_cons_succ] at B_r
    have V_w6' : Below w.heap.size w w6' := (V_w2').trans (G.below (V_w2').size (fun q hq => by have := (V_w2').size; simp at hq; omega))
    replace B_a := B_a.only G (by first | (simp; done) | (simp; omega))
    have sG0 := G.size
    clear G
    clear V_w2'
    have S_w6' : w2'.heap.size + 0 ≤ w6'.heap.size := by omega
    clear sG0
    have e_r_0 : w6'.cell? ⟨w.heap.size + 1, 0, none⟩ = some (.int .i64 0) := B_r.cell 0
    have e_r_1 : w6'.cell? ⟨w.heap.size + 1, 1, none⟩ = some (.int .i64 0) := B_r.cell 1
    have e_r_2 : w6'.cell? ⟨w.heap.size + 1, 2, none⟩ = some (.int .i64 0) := B_r.cell 2
    have e_r_3 : w6'.cell? ⟨w.heap.size + 1, 3, none⟩ = some (.int .i64 0) := B_r.cell 3
    have e_r_4 : w6'.cell? ⟨w.heap.size + 1, 4, none⟩ = some (.int .i64 0) := B_r.cell 4
    have e_r_5 : w6'.cell? ⟨w.heap.size + 1, 5, none⟩ = some (.slice none 0 0) := B_r.cell 5
    have e_r_6 : w6'.cell? ⟨w.heap.size + 1, 6, none⟩ = some (.slice none 0 0) := B_r.cell 6
    have e_r_7 : w6'.cell? ⟨w.heap.size + 1, 7, none⟩ = some (.int .i64 0) := B_r.cell 7
    have e_r_8 : w6'.cell? ⟨w.heap.size + 1, 8, none⟩ = some (.slice none 0 0) := B_r.cell 8
    have e_r_9 : w6'.cell? ⟨w.heap.size + 1, 9, none⟩ = some (.int .i64 0) := B_r.cell 9
    have e_r_10 : w6'.cell? ⟨w.heap.size + 1, 10, none⟩ = some (.int .i64 0) := B_r.cell 10
    exact bodyPost_ret (v := .tuple #[.agg #[.int .i64 0, .int .i64 0, .int .i64 0, .int .i64 0, .int .i64 0, .slice none 0 0, .slice none 0 0, .int .i64 0, .slice none 0 0, .int .i64 0, .int .i64 0], .bool false]) (by simp [results, Tryd.results42, go_sem, e_r_0, e_r_1, e_r_2, e_r_3, e_r_4, e_r_5, e_r_6, e_r_7, e_r_8, e_r_9, e_r_10]) rfl (by first | exact ⟨zeroX, [], rfl, PlO.nil _ _, V_w6'⟩ | exact ⟨zeroX, rfl, ⟨[], PlO.nil _ _⟩, V_w6'⟩)
  have h6 : ¬ (6 : Int) < (n : Int) := by have := HB3.out; simp at this; omega
  have h6' : decide ((6 : Int) < (n : Int)) = false := by simpa using h6
  have h6n : (n : Int) ≤ 6 := by omega
  have RN0 := RN.out (by first | rfl | trivial) h2.out
  have e_a_0 : w2'.cell? ⟨w.heap.size, 0, none⟩ = some (.int .i64 a.P) := B_a.cell 0
  have e_a_1 : w2'.cell? ⟨w.heap.size, 1, none⟩ = some (.int .i64 a.party) := B_a.cell 1
  have e_a_2 : w2'.cell? ⟨w.heap.size, 2, none⟩ = some (.int .i64 a.input) := B_a.cell 2
  have e_a_3 : w2'.cell? ⟨w.heap.size, 3, none⟩ = some (.int .i64 a.mask) := B_a.cell 3
  have e_a_4 : w2'.cell? ⟨w.heap.size, 4, none⟩ = some (.int .i64 a.delta) := B_a.cell 4
  have e_a_5 : w2'.cell? ⟨w.heap.size, 5, none⟩ = some (.slice x.sa x.sn x.sc) := B_a.cell 5
  have e_a_6 : w2'.cell? ⟨w.heap.size, 6, none⟩ = some (.slice x.ka x.kn x.kc) := B_a.cell 6
  have e_a_7 : w2'.cell? ⟨w.heap.size, 7, none⟩ = some (.int .i64 a.step) := B_a.cell 7
  have e_a_8 : w2'.cell? ⟨w.heap.size, 8, none⟩ = some (.slice x.ha x.hn x.hc) := B_a.cell 8
  have e_a_9 : w2'.cell? ⟨w.heap.size, 9, none⟩ = some (.int .i64 a.status) := B_a.cell 9
  have e_a_10 : w2'.cell? ⟨w.heap.size, 10, none⟩ = some (.int .i64 a.out) := B_a.cell 10
  go_wp2
  clear e_a_0 e_a_1 e_a_2 e_a_3 e_a_4 e_a_5 e_a_6 e_a_7 e_a_8 e_a_9 e_a_10
  have PB0 := (PlB.of LH.out (F := [w.heap.size]) (by simp)).below V_w2'
  have LV := Lib.hid V_w2'
  have bl : w.heap.size + 1 < w2'.heap.size := by omega
  go_loopw [27] (fun v wr => ∃ k : Nat, k ≤ n ∧ v = .int .i64 k ∧ Below w.heap.size w wr ∧ Blk wr (w.heap.size + 1) 31 #[.int .i64 0, .int .i64 0, .int .i64 0, .int .i64 0, .int .i64 0, .slice none 0 0, .slice none 0 0, .int .i64 0, .slice none 0 0, .int .i64 0, .int .i64 0] ∧ w.heap.size + 1 < wr.heap.size ∧ ∃ t y, RunN t ∧ t = rpP a (D.take k) ∧ Blk wr w.heap.size 31 #[.int .i64 t.P, .int .i64 t.party, .int .i64 t.input, .int .i64 t.mask, .int .i64 t.delta, .slice y.sa y.sn y.sc, .slice y.ka y.kn y.kc, .int .i64 t.step, .slice y.ha y.hn y.hc, .int .i64 t.status, .int .i64 t.out] ∧ PlB [w.heap.size] wr y t.shares t.keys t.heard) (fun v _ => n - (intOf v).toNat)
  case atStart => exact ⟨0, by omega, rfl, LV.out, B_r, bl, a, x, RN0, rfl, B_a, PB0⟩
  case round =>
    obtain ⟨k, hk, rfl, V_wr, B_r, hbx, t, y, hRN, ht, B_a, pb⟩ := hrel
    have HRN := Lib.hid hRN
    have HT := Lib.hid ht
    clear hRN ht
    by_cases hlt : k < n
    · obtain ⟨g, o', rfl, c0, c1, c2, _⟩ := (LS.out.below V_wr).at k hlt
      have inn := LS.out.inn _ (msAt_mem (rs := rs) (j := k) (by rw [hrl.out]; exact hlt))
      have hlt' : (k : Int) < (n : Int) := by omega
      have HM : Hid (mdAt D k = msD (msAt rs k)) := Lib.hid (by rw [← hD.out]; exact mdAt_map (by rw [hrl.out]; exact hlt))
      have HK : Hid (rpP a (D.take (k + 1)) = rpS t (mdAt D k)) := Lib.hid (by rw [HT.out]; exact rpP_take a D k (by rw [HL.out]; exact hlt))
      generalize msAt rs k = r at *
      obtain ⟨fr, st, ra, rc, rl⟩ := r
      dsimp only at *
      have HRS := Lib.hid (HRN.out.step (fr, st, rl))
      have HE : Hid (rpP a (D.take (k + 1)) = rpS t (fr, st, rl)) := Lib.hid (by rw [HK.out, HM.out]; rfl)
      go_upto_region 6 with fail
      have V_w7'_1 : Below w.heap.size w (wr.alloc (.cells #[.int .i64 fr, .int .i64 st, .slice ra rl.length rc] 44)) := (V_wr).alloc (by have := (V_wr).size; first | exact this | (simp at *; omega)) _
      replace B_a := B_a.alloc (.cells #[.int .i64 fr, .int .i64 st, .slice ra rl.length rc] 44)
      replace B_r := B_r.alloc (.cells #[.int .i64 fr, .int .i64 st, .slice ra rl.length rc] 44)
      replace pb := pb.alloc (.cells #[.int .i64 fr, .int .i64 st, .slice ra rl.length rc] 44)
      have B_m : Blk (wr.alloc (.cells #[.int .i64 fr, .int .i64 st, .slice ra rl.length rc] 44)) (wr.heap.size) 44 #[.int .i64 fr, .int .i64 st, .slice ra rl.length rc] := by exact Blk.new wr 44 #[.int .i64 fr, .int .i64 st, .slice ra rl.length rc]
      have S_w7' : wr.heap.size + 1 ≤ (wr.alloc (.cells #[.int .i64 fr, .int .i64 st, .slice ra rl.length rc] 44)).heap.size := by first | (simp; done) | (simp; omega) | (simp [World.setCell]; done) | (simp [World.setCell]; omega)
      generalize (wr.alloc (.cells #[.int .i64 fr, .int .i64 st, .slice ra rl.length rc] 44)) = w7' at *
      have V_w7' : Below w.heap.size w w7' := V_w7'_1
      clear V_wr
      clear V_w7'_1
      clear c0 c1 c2
      by_cases hst : t.status = 0
      · have d9 : ((t.status == 0) : Bool) = true := by simpa using hst
        have hs2 := HRN.out.r hst
        have HS : Hid (rpS t (fr, st, rl) = takeP t fr st rl) := Lib.hid (by unfold rpS; rw [if_pos hst])
        replace hst := Lib.hid hst
        have e_a_0 : w7'.cell? ⟨w.heap.size, 0, none⟩ = some (.int .i64 t.P) := B_a.cell 0
        have e_a_1 : w7'.cell? ⟨w.heap.size, 1, none⟩ = some (.int .i64 t.party) := B_a.cell 1
        have e_a_2 : w7'.cell? ⟨w.heap.size, 2, none⟩ = some (.int .i64 t.input) := B_a.cell 2
        have e_a_3 : w7'.cell? ⟨w.heap.size, 3, none⟩ = some (.int .i64 t.mask) := B_a.cell 3
        have e_a_4 : w7'.cell? ⟨w.heap.size, 4, none⟩ = some (.int .i64 t.delta) := B_a.cell 4
        have e_a_5 : w7'.cell? ⟨w.heap.size, 5, none⟩ = some (.slice y.sa y.sn y.sc) := B_a.cell 5
        have e_a_6 : w7'.cell? ⟨w.heap.size, 6, none⟩ = some (.slice y.ka y.kn y.kc) := B_a.cell 6
        have e_a_7 : w7'.cell? ⟨w.heap.size, 7, none⟩ = some (.int .i64 t.step) := B_a.cell 7
        have e_a_8 : w7'.cell? ⟨w.heap.size, 8, none⟩ = some (.slice y.ha y.hn y.hc) := B_a.cell 8
        have e_a_9 : w7'.cell? ⟨w.heap.size, 9, none⟩ = some (.int .i64 t.status) := B_a.cell 9
        have e_a_10 : w7'.cell? ⟨w.heap.size, 10, none⟩ = some (.int .i64 t.out) := B_a.cell 10
        have e_m_0 : w7'.cell? ⟨wr.heap.size, 0, none⟩ = some (.int .i64 fr) := B_m.cell 0
        have e_m_1 : w7'.cell? ⟨wr.heap.size, 1, none⟩ = some (.int .i64 st) := B_m.cell 1
        have e_m_2 : w7'.cell? ⟨wr.heap.size, 2, none⟩ = some (.slice ra rl.length rc) := B_m.cell 2
        go_wp2_with fail
        clear e_a_0 e_a_1 e_a_2 e_a_3 e_a_4 e_a_5 e_a_6 e_a_7 e_a_8 e_a_9 e_a_10 e_m_0 e_m_1 e_m_2
        refine (ptTake_B t y fr st ra _ rc rl _ [w.heap.size] (by simp; omega) pb (inn.below V_w7') HRN.out.n hs2).mono ?_
        rintro e w8' ⟨y2, rfl, pb2, u_w8'⟩
        replace B_a := B_a.below u_w8'
        replace B_r := B_r.below u_w8'
        replace B_m := B_m.below u_w8'
        replace pb := pb.below u_w8'
        have S_w8' := u_w8'.size
        have V_w8' : Below w.heap.size w w8' := V_w7'.trans (u_w8'.mono V_w7'.size)
        clear V_w7'
        clear u_w8'
        clear pb
        generalize takeP t fr st rl = t2 at *
        have e_a_0 : w8'.cell? ⟨w.heap.size, 0, none⟩ = some (.int .i64 t.P) := B_a.cell 0
        have f_a_0 : w8'.frozen? ⟨w.heap.size, 0, none⟩ = false := B_a.frozen 0
        have e_a_1 : w8'.cell? ⟨w.heap.size, 1, none⟩ = some (.int .i64 t.party) := B_a.cell 1
        have f_a_1 : w8'.frozen? ⟨w.heap.size, 1, none⟩ = false := B_a.frozen 1
        have e_a_2 : w8'.cell? ⟨w.heap.size, 2, none⟩ = some (.int .i64 t.input) := B_a.cell 2
        have f_a_2 : w8'.frozen? ⟨w.heap.size, 2, none⟩ = false := B_a.frozen 2
        have e_a_3 : w8'.cell? ⟨w.heap.size, 3, none⟩ = some (.int .i64 t.mask) := B_a.cell 3
        have f_a_3 : w8'.frozen? ⟨w.heap.size, 3, none⟩ = false := B_a.frozen 3
        have e_a_4 : w8'.cell? ⟨w.heap.size, 4, none⟩ = some (.int .i64 t.delta) := B_a.cell 4
        have f_a_4 : w8'.frozen? ⟨w.heap.size, 4, none⟩ = false := B_a.frozen 4
        have e_a_5 : w8'.cell? ⟨w.heap.size, 5, none⟩ = some (.slice y.sa y.sn y.sc) := B_a.cell 5
        have f_a_5 : w8'.frozen? ⟨w.heap.size, 5, none⟩ = false := B_a.frozen 5
        have e_a_6 : w8'.cell? ⟨w.heap.size, 6, none⟩ = some (.slice y.ka y.kn y.kc) := B_a.cell 6
        have f_a_6 : w8'.frozen? ⟨w.heap.size, 6, none⟩ = false := B_a.frozen 6
        have e_a_7 : w8'.cell? ⟨w.heap.size, 7, none⟩ = some (.int .i64 t.step) := B_a.cell 7
        have f_a_7 : w8'.frozen? ⟨w.heap.size, 7, none⟩ = false := B_a.frozen 7
        have e_a_8 : w8'.cell? ⟨w.heap.size, 8, none⟩ = some (.slice y.ha y.hn y.hc) := B_a.cell 8
        have f_a_8 : w8'.frozen? ⟨w.heap.size, 8, none⟩ = false := B_a.frozen 8
        have e_a_9 : w8'.cell? ⟨w.heap.size, 9, none⟩ = some (.int .i64 t.status) := B_a.cell 9
        have f_a_9 : w8'.frozen? ⟨w.heap.size, 9, none⟩ = false := B_a.frozen 9
        have e_a_10 : w8'.cell? ⟨w.heap.size, 10, none⟩ = some (.int .i64 t.out) := B_a.cell 10
        have f_a_10 : w8'.frozen? ⟨w.heap.size, 10, none⟩ = false := B_a.frozen 10
        go_wp2
        clear e_a_0 f_a_0 e_a_1 f_a_1 e_a_2 f_a_2 e_a_3 f_a_3 e_a_4 f_a_4 e_a_5 f_a_5 e_a_6 f_a_6 e_a_7 f_a_7 e_a_8 f_a_8 e_a_9 f_a_9 e_a_10 f_a_10
        have g_1 : Only [w.heap.size] w8' (w8'.setCell ⟨w.heap.size, 0, none⟩ (.int .i64 t2.P)) := (Only.refl _ _).setCell _ _ (by simp)
        replace B_a := B_a.set_ 0 (.int .i64 t2.P)
        generalize w8'.setCell ⟨w.heap.size, 0, none⟩ (.int .i64 t2.P) = w9_1' at *
        have G := g_1
        clear g_1
        have g_2 : Only [w.heap.size] w9_1' (w9_1'.setCell ⟨w.heap.size, 1, none⟩ (.int .i64 t2.party)) := (Only.refl _ _).setCell _ _ (by simp)
        replace B_a := B_a.set_ 1 (.int .i64 t2.party)
        generalize w9_1'.setCell ⟨w.heap.size, 1, none⟩ (.int .i64 t2.party) = w9_2' at *
        replace G := G.trans g_2
        clear g_2
        have g_3 : Only [w.heap.size] w9_2' (w9_2'.setCell ⟨w.heap.size, 2, none⟩ (.int .i64 t2.input)) := (Only.refl _ _).setCell _ _ (by simp)
        replace B_a := B_a.set_ 2 (.int .i64 t2.input)
        generalize w9_2'.setCell ⟨w.heap.size, 2, none⟩ (.int .i64 t2.input) = w9_3' at *
        replace G := G.trans g_3
        clear g_3
        have g_4 : Only [w.heap.size] w9_3' (w9_3'.setCell ⟨w.heap.size, 3, none⟩ (.int .i64 t2.mask)) := (Only.refl _ _).setCell _ _ (by simp)
        replace B_a := B_a.set_ 3 (.int .i64 t2.mask)
        generalize w9_3'.setCell ⟨w.heap.size, 3, none⟩ (.int .i64 t2.mask) = w9_4' at *
        replace G := G.trans g_4
        clear g_4
        have g_5 : Only [w.heap.size] w9_4' (w9_4'.setCell ⟨w.heap.size, 4, none⟩ (.int .i64 t2.delta)) := (Only.refl _ _).setCell _ _ (by simp)
        replace B_a := B_a.set_ 4 (.int .i64 t2.delta)
        generalize w9_4'.setCell ⟨w.heap.size, 4, none⟩ (.int .i64 t2.delta) = w9_5' at *
        replace G := G.trans g_5
        clear g_5
        have g_6 : Only [w.heap.size] w9_5' (w9_5'.setCell ⟨w.heap.size, 5, none⟩ (.slice y2.sa y2.sn y2.sc)) := (Only.refl _ _).setCell _ _ (by simp)
        replace B_a := B_a.set_ 5 (.slice y2.sa y2.sn y2.sc)
        generalize w9_5'.setCell ⟨w.heap.size, 5, none⟩ (.slice y2.sa y2.sn y2.sc) = w9_6' at *
        replace G := G.trans g_6
        clear g_6
        have g_7 : Only [w.heap.size] w9_6' (w9_6'.setCell ⟨w.heap.size, 6, none⟩ (.slice y2.ka y2.kn y2.kc)) := (Only.refl _ _).setCell _ _ (by simp)
        replace B_a := B_a.set_ 6 (.slice y2.ka y2.kn y2.kc)
        generalize w9_6'.setCell ⟨w.heap.size, 6, none⟩ (.slice y2.ka y2.kn y2.kc) = w9_7' at *
        replace G := G.trans g_7
        clear g_7
        have g_8 : Only [w.heap.size] w9_7' (w9_7'.setCell ⟨w.heap.size, 7, none⟩ (.int .i64 t2.step)) := (Only.refl _ _).setCell _ _ (by simp)
        replace B_a := B_a.set_ 7 (.int .i64 t2.step)
        generalize w9_7'.setCell ⟨w.heap.size, 7, none⟩ (.int .i64 t2.step) = w9_8' at *
        replace G := G.trans g_8
        clear g_8
        have g_9 : Only [w.heap.size] w9_8' (w9_8'.setCell ⟨w.heap.size, 8, none⟩ (.slice y2.ha y2.hn y2.hc)) := (Only.refl _ _).setCell _ _ (by simp)
        replace B_a := B_a.set_ 8 (.slice y2.ha y2.hn y2.hc)
        generalize w9_8'.setCell ⟨w.heap.size, 8, none⟩ (.slice y2.ha y2.hn y2.hc) = w9_9' at *
        replace G := G.trans g_9
        clear g_9
        have g_10 : Only [w.heap.size] w9_9' (w9_9'.setCell ⟨w.heap.size, 9, none⟩ (.int .i64 t2.status)) := (Only.refl _ _).setCell _ _ (by simp)
        replace B_a := B_a.set_ 9 (.int .i64 t2.status)
        generalize w9_9'.setCell ⟨w.heap.size, 9, none⟩ (.int .i64 t2.status) = w9_10' at *
        replace G := G.trans g_10
        clear g_10
        have g_11 : Only [w.heap.size] w9_10' (w9_10'.setCell ⟨w.heap.size, 10, none⟩ (.int .i64 t2.out)) := (Only.refl _ _).setCell _ _ (by simp)
        replace B_a := B_a.set_ 10 (.int .i64 t2.out)
        generalize w9_10'.setCell ⟨w.heap.size, 10, none⟩ (.int .i64 t2.out) = w9' at *
        replace G := G.trans g_11
        clear g_11
        simp only [List.setIfInBounds_toArray, List.set_cons_zero, List.set_cons_succ] at B_a
        have V_w9' : Below w.heap.size w w9' := (V_w8').trans (G.below (V_w8').size (fun q hq => by have := (V_w8').size; simp at hq; omega))
        replace B_r := B_r.only G (by first | (simp; done) | (simp; omega))
        replace B_m := B_m.only G (by first | (simp; done) | (simp; omega))
        have sG0 := G.size
        have KG := G
        clear G
        clear V_w8'
        have S_w9' : w8'.heap.size + 0 ≤ w9'.heap.size := by omega
        clear sG0
        have RN2 : RunN t2 := by have := HRS.out; rw [HS.out] at this; exact this
        have HT2 : t2 = rpP a (D.take (k + 1)) := by rw [HE.out, HS.out]
        replace RN2 := Lib.hid RN2
        replace HT2 := Lib.hid HT2
        have pb3 := pb2.only KG
        clear KG
        go_wp2
        go_roundw
        case rel => exact ⟨k + 1, by omega, by go_num, V_w9', B_r, by omega, t2, y2, RN2.out, HT2.out, B_a, pb3⟩
        case measure => simp [intOf]; omega
      · have d9 : ((t.status == 0) : Bool) = false := by simpa using hst
        have HS : Hid (rpS t (fr, st, rl) = t) := Lib.hid (by unfold rpS; rw [if_neg hst])
        replace hst := Lib.hid hst
        have e_a_9 : w7'.cell? ⟨w.heap.size, 9, none⟩ = some (.int .i64 t.status) := B_a.cell 9
        go_wp2
        clear e_a_9
        go_roundw
        case rel => exact ⟨k + 1, by omega, by go_num, V_w7', B_r, by omega, t, y, HRN.out, by rw [HE.out, HS.out], B_a, pb⟩
        case measure => simp [intOf]; omega
    · obtain rfl : n = k := by omega
      have HTE : Hid (t = rpP a D) := Lib.hid (by have := HT.out; rw [← HL.out, List.take_length] at this; exact this)
      have e_a_0 : wr.cell? ⟨w.heap.size, 0, none⟩ = some (.int .i64 t.P) := B_a.cell 0
      have e_a_1 : wr.cell? ⟨w.heap.size, 1, none⟩ = some (.int .i64 t.party) := B_a.cell 1
      have e_a_2 : wr.cell? ⟨w.heap.size, 2, none⟩ = some (.int .i64 t.input) := B_a.cell 2
      have e_a_3 : wr.cell? ⟨w.heap.size, 3, none⟩ = some (.int .i64 t.mask) := B_a.cell 3
      have e_a_4 : wr.cell? ⟨w.heap.size, 4, none⟩ = some (.int .i64 t.delta) := B_a.cell 4
      have e_a_5 : wr.cell? ⟨w.heap.size, 5, none⟩ = some (.slice y.sa y.sn y.sc) := B_a.cell 5
      have e_a_6 : wr.cell? ⟨w.heap.size, 6, none⟩ = some (.slice y.ka y.kn y.kc) := B_a.cell 6
      have e_a_7 : wr.cell? ⟨w.heap.size, 7, none⟩ = some (.int .i64 t.step) := B_a.cell 7
      have e_a_8 : wr.cell? ⟨w.heap.size, 8, none⟩ = some (.slice y.ha y.hn y.hc) := B_a.cell 8
      have e_a_9 : wr.cell? ⟨w.heap.size, 9, none⟩ = some (.int .i64 t.status) := B_a.cell 9
      have e_a_10 : wr.cell? ⟨w.heap.size, 10, none⟩ = some (.int .i64 t.out) := B_a.cell 10
      go_wp2_with fail
      clear e_a_0 e_a_1 e_a_2 e_a_3 e_a_4 e_a_5 e_a_6 e_a_7 e_a_8 e_a_9 e_a_10
      refine (ptOwn_any t y _ pb.rd HRN.out.n).mono ?_
      rintro e w10' ⟨y2, F2, rfl, o2, u_w10'⟩
      replace B_a := B_a.below u_w10'
      replace B_r := B_r.below u_w10'
      have S_w10' := u_w10'.size
      have V_w10' : Below w.heap.size w w10' := V_wr.trans (u_w10'.mono V_wr.size)
      clear V_wr
      clear u_w10'
      have Q_o2 := Lib.hid o2.feet
      have e_r_0 : w10'.cell? ⟨w.heap.size + 1, 0, none⟩ = some (.int .i64 0) := B_r.cell 0
      have f_r_0 : w10'.frozen? ⟨w.heap.size + 1, 0, none⟩ = false := B_r.frozen 0
      have e_r_1 : w10'.cell? ⟨w.heap.size + 1, 1, none⟩ = some (.int .i64 0) := B_r.cell 1
      have f_r_1 : w10'.frozen? ⟨w.heap.size + 1, 1, none⟩ = false := B_r.frozen 1
      have e_r_2 : w10'.cell? ⟨w.heap.size + 1, 2, none⟩ = some (.int .i64 0) := B_r.cell 2
      have f_r_2 : w10'.frozen? ⟨w.heap.size + 1, 2, none⟩ = false := B_r.frozen 2
      have e_r_3 : w10'.cell? ⟨w.heap.size + 1, 3, none⟩ = some (.int .i64 0) := B_r.cell 3
      have f_r_3 : w10'.frozen? ⟨w.heap.size + 1, 3, none⟩ = false := B_r.frozen 3
      have e_r_4 : w10'.cell? ⟨w.heap.size + 1, 4, none⟩ = some (.int .i64 0) := B_r.cell 4
      have f_r_4 : w10'.frozen? ⟨w.heap.size + 1, 4, none⟩ = false := B_r.frozen 4
      have e_r_5 : w10'.cell? ⟨w.heap.size + 1, 5, none⟩ = some (.slice none 0 0) := B_r.cell 5
      have f_r_5 : w10'.frozen? ⟨w.heap.size + 1, 5, none⟩ = false := B_r.frozen 5
      have e_r_6 : w10'.cell? ⟨w.heap.size + 1, 6, none⟩ = some (.slice none 0 0) := B_r.cell 6
      have f_r_6 : w10'.frozen? ⟨w.heap.size + 1, 6, none⟩ = false := B_r.frozen 6
      have e_r_7 : w10'.cell? ⟨w.heap.size + 1, 7, none⟩ = some (.int .i64 0) := B_r.cell 7
      have f_r_7 : w10'.frozen? ⟨w.heap.size + 1, 7, none⟩ = false := B_r.frozen 7
      have e_r_8 : w10'.cell? ⟨w.heap.size + 1, 8, none⟩ = some (.slice none 0 0) := B_r.cell 8
      have f_r_8 : w10'.frozen? ⟨w.heap.size + 1, 8, none⟩ = false := B_r.frozen 8
      have e_r_9 : w10'.cell? ⟨w.heap.size + 1, 9, none⟩ = some (.int .i64 0) := B_r.cell 9
      have f_r_9 : w10'.frozen? ⟨w.heap.size + 1, 9, none⟩ = false := B_r.frozen 9
      have e_r_10 : w10'.cell? ⟨w.heap.size + 1, 10, none⟩ = some (.int .i64 0) := B_r.cell 10
      have f_r_10 : w10'.frozen? ⟨w.heap.size + 1, 10, none⟩ = false := B_r.frozen 10
      go_wp2
      clear e_r_0 f_r_0 e_r_1 f_r_1 e_r_2 f_r_2 e_r_3 f_r_3 e_r_4 f_r_4 e_r_5 f_r_5 e_r_6 f_r_6 e_r_7 f_r_7 e_r_8 f_r_8 e_r_9 f_r_9 e_r_10 f_r_10
      have g_1 : Only [w.heap.size + 1] w10' (w10'.setCell ⟨w.heap.size + 1, 0, none⟩ (.int .i64 t.P)) := (Only.refl _ _).setCell _ _ (by simp)
      replace B_r := B_r.set_ 0 (.int .i64 t.P)
      generalize w10'.setCell ⟨w.heap.size + 1, 0, none⟩ (.int .i64 t.P) = w11_1' at *
      have G := g_1
      clear g_1
      have g_2 : Only [w.heap.size + 1] w11_1' (w11_1'.setCell ⟨w.heap.size + 1, 1, none⟩ (.int .i64 t.party)) := (Only.refl _ _).setCell _ _ (by simp)
      replace B_r := B_r.set_ 1 (.int .i64 t.party)
      generalize w11_1'.setCell ⟨w.heap.size + 1, 1, none⟩ (.int .i64 t.party) = w11_2' at *
      replace G := G.trans g_2
      clear g_2
      have g_3 : Only [w.heap.size + 1] w11_2' (w11_2'.setCell ⟨w.heap.size + 1, 2, none⟩ (.int .i64 t.input)) := (Only.refl _ _).setCell _ _ (by simp)
      replace B_r := B_r.set_ 2 (.int .i64 t.input)
      generalize w11_2'.setCell ⟨w.heap.size + 1, 2, none⟩ (.int .i64 t.input) = w11_3' at *
      replace G := G.trans g_3
      clear g_3
      have g_4 : Only [w.heap.size + 1] w11_3' (w11_3'.setCell ⟨w.heap.size + 1, 3, none⟩ (.int .i64 t.mask)) := (Only.refl _ _).setCell _ _ (by simp)
      replace B_r := B_r.set_ 3 (.int .i64 t.mask)
      generalize w11_3'.setCell ⟨w.heap.size + 1, 3, none⟩ (.int .i64 t.mask) = w11_4' at *
      replace G := G.trans g_4
      clear g_4
      have g_5 : Only [w.heap.size + 1] w11_4' (w11_4'.setCell ⟨w.heap.size + 1, 4, none⟩ (.int .i64 t.delta)) := (Only.refl _ _).setCell _ _ (by simp)
      replace B_r := B_r.set_ 4 (.int .i64 t.delta)
      generalize w11_4'.setCell ⟨w.heap.size + 1, 4, none⟩ (.int .i64 t.delta) = w11_5' at *
      replace G := G.trans g_5
      clear g_5
      have g_6 : Only [w.heap.size + 1] w11_5' (w11_5'.setCell ⟨w.heap.size + 1, 5, none⟩ (.slice y2.sa y2.sn y2.sc)) := (Only.refl _ _).setCell _ _ (by simp)
      replace B_r := B_r.set_ 5 (.slice y2.sa y2.sn y2.sc)
      generalize w11_5'.setCell ⟨w.heap.size + 1, 5, none⟩ (.slice y2.sa y2.sn y2.sc) = w11_6' at *
      replace G := G.trans g_6
      clear g_6
      have g_7 : Only [w.heap.size + 1] w11_6' (w11_6'.setCell ⟨w.heap.size + 1, 6, none⟩ (.slice y2.ka y2.kn y2.kc)) := (Only.refl _ _).setCell _ _ (by simp)
      replace B_r := B_r.set_ 6 (.slice y2.ka y2.kn y2.kc)
      generalize w11_6'.setCell ⟨w.heap.size + 1, 6, none⟩ (.slice y2.ka y2.kn y2.kc) = w11_7' at *
      replace G := G.trans g_7
      clear g_7
      have g_8 : Only [w.heap.size + 1] w11_7' (w11_7'.setCell ⟨w.heap.size + 1, 7, none⟩ (.int .i64 t.step)) := (Only.refl _ _).setCell _ _ (by simp)
      replace B_r := B_r.set_ 7 (.int .i64 t.step)
      generalize w11_7'.setCell ⟨w.heap.size + 1, 7, none⟩ (.int .i64 t.step) = w11_8' at *
      replace G := G.trans g_8
      clear g_8
      have g_9 : Only [w.heap.size + 1] w11_8' (w11_8'.setCell ⟨w.heap.size + 1, 8, none⟩ (.slice y2.ha y2.hn y2.hc)) := (Only.refl _ _).setCell _ _ (by simp)
      replace B_r := B_r.set_ 8 (.slice y2.ha y2.hn y2.hc)
      generalize w11_8'.setCell ⟨w.heap.size + 1, 8, none⟩ (.slice y2.ha y2.hn y2.hc) = w11_9' at *
      replace G := G.trans g_9
      clear g_9
      have g_10 : Only [w.heap.size + 1] w11_9' (w11_9'.setCell ⟨w.heap.size + 1, 9, none⟩ (.int .i64 t.status)) := (Only.refl _ _).setCell _ _ (by simp)
      replace B_r := B_r.set_ 9 (.int .i64 t.status)
      generalize w11_9'.setCell ⟨w.heap.size + 1, 9, none⟩ (.int .i64 t.status) = w11_10' at *
      replace G := G.trans g_10
      clear g_10
      have g_11 : Only [w.heap.size + 1] w11_10' (w11_10'.setCell ⟨w.heap.size + 1, 10, none⟩ (.int .i64 t.out)) := (Only.refl _ _).setCell _ _ (by simp)
      replace B_r := B_r.set_ 10 (.int .i64 t.out)
      generalize w11_10'.setCell ⟨w.heap.size + 1, 10, none⟩ (.int .i64 t.out) = w11' at *
      replace G := G.trans g_11
      clear g_11
      simp only [List.setIfInBounds_toArray, List.set_cons_zero, List.set_cons_succ] at B_r
      have V_w11' : Below w.heap.size w w11' := (V_w10').trans (G.below (V_w10').size (fun q hq => by have := (V_w10').size; simp at hq; omega))
      replace B_a := B_a.only G (by first | (simp; done) | (simp; omega))
      replace o2 := o2.only G (fun q hq hq' => by have := Q_o2.out q hq; simp at hq'; omega)
      have sG0 := G.size
      clear G
      clear V_w10'
      have S_w11' : w10'.heap.size + 0 ≤ w11'.heap.size := by omega
      clear sG0
      have e_r_0 : w11'.cell? ⟨w.heap.size + 1, 0, none⟩ = some (.int .i64 t.P) := B_r.cell 0
      have e_r_1 : w11'.cell? ⟨w.heap.size + 1, 1, none⟩ = some (.int .i64 t.party) := B_r.cell 1
      have e_r_2 : w11'.cell? ⟨w.heap.size + 1, 2, none⟩ = some (.int .i64 t.input) := B_r.cell 2
      have e_r_3 : w11'.cell? ⟨w.heap.size + 1, 3, none⟩ = some (.int .i64 t.mask) := B_r.cell 3
      have e_r_4 : w11'.cell? ⟨w.heap.size + 1, 4, none⟩ = some (.int .i64 t.delta) := B_r.cell 4
      have e_r_5 : w11'.cell? ⟨w.heap.size + 1, 5, none⟩ = some (.slice y2.sa y2.sn y2.sc) := B_r.cell 5
      have e_r_6 : w11'.cell? ⟨w.heap.size + 1, 6, none⟩ = some (.slice y2.ka y2.kn y2.kc) := B_r.cell 6
      have e_r_7 : w11'.cell? ⟨w.heap.size + 1, 7, none⟩ = some (.int .i64 t.step) := B_r.cell 7
      have e_r_8 : w11'.cell? ⟨w.heap.size + 1, 8, none⟩ = some (.slice y2.ha y2.hn y2.hc) := B_r.cell 8
      have e_r_9 : w11'.cell? ⟨w.heap.size + 1, 9, none⟩ = some (.int .i64 t.status) := B_r.cell 9
      have e_r_10 : w11'.cell? ⟨w.heap.size + 1, 10, none⟩ = some (.int .i64 t.out) := B_r.cell 10
      have EE := HTE.out
      subst EE
      exact bodyPost_ret (v := .tuple #[.agg #[.int .i64 (rpP a D).P, .int .i64 (rpP a D).party, .int .i64 (rpP a D).input, .int .i64 (rpP a D).mask, .int .i64 (rpP a D).delta, .slice y2.sa y2.sn y2.sc, .slice y2.ka y2.kn y2.kc, .int .i64 (rpP a D).step, .slice y2.ha y2.hn y2.hc, .int .i64 (rpP a D).status, .int .i64 (rpP a D).out], .bool true]) (by simp [results, Tryd.results42, go_sem, e_r_0, e_r_1, e_r_2, e_r_3, e_r_4, e_r_5, e_r_6, e_r_7, e_r_8, e_r_9, e_r_10]) rfl (by first | exact ⟨y2, F2, rfl, o2.lower (by omega), V_w11'⟩ | exact ⟨y2, rfl, ⟨F2, o2.lower (by omega)⟩, V_w11'⟩)
end Go.Proofs.YtlmdckcohoddnaaDoor
