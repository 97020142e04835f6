/- MessageOf: the program's and the reference's. -/
import Derived.Test.YtlmdckcohoddnaaDoorSpD
import Derived.Test.YtlmdckcohoddnaaDoorTwo
namespace Go.Proofs.YtlmdckcohoddnaaDoor
open Go.RowKit
def moB (a : Pl) : Bool := plB a && decide (a.status = 0)
def moF (a : Pl) : Int := if moB a then a.party else 0
def moS (a : Pl) : Int := if moB a then a.step else 0
def moL (a : Pl) : List Int := if moB a then bodyL a else []
theorem run_step {a : Pl} (h : plB a = true) (h0 : a.status = 0) : a.step ≤ 2 := by
  have g := (plB_parts h).2.2.2.2.2.2.2.2.2.2.2.1
  unfold plB at h
  simp only [Bool.and_eq_true] at h
  obtain ⟨_, _, _, _, _, _, _, _, _, _, h10⟩ := h
  unfold endB at h10
  split at h10
  · have := of_decide_eq_true h10; omega
  · omega
theorem moL_len (a : Pl) : (moL a).length ≤ 4 := by
  unfold moL moB
  split
  · rename_i h
    rw [Bool.and_eq_true] at h
    have h1 := of_decide_eq_true h.2
    rw [bodyL_len a (PlN.of h.1) (run_step h.1 h1)]
    exact (blen_bd _).2
  · simp
set_option maxHeartbeats 8000000 in
set_option maxRecDepth 100000 in
theorem MessageOf_any (a : Pl) (x : PlX) (w : World) (h : PlR w x a.shares a.keys a.heard) (hT : Tbl w) :
    Calls Tryd.prog 27 #[.agg #[.int .i64 a.P, .int .i64 a.party, .int .i64 a.input, .int .i64 a.mask, .int .i64 a.delta, .slice x.sa x.sn x.sc, .slice x.ka x.kn x.kc, .int .i64 a.step, .slice x.ha x.hn x.hc, .int .i64 a.status, .int .i64 a.out]] w fun e w' => ∃ b n c, e = .returned (.tuple #[.agg #[.int .i64 (moF a), .int .i64 (moS a), .slice b n c], .bool (moB a)]) ∧ Own w' w.heap.size b n c (moL a) ∧ Below w.heap.size w w' := by
  have CG := Lib.hid (fun (W : World) (h2 : PlR W x a.shares a.keys a.heard) (hT2 : Tbl W) => IsPlayer_any a x W h2 hT2)
  have CM := Lib.hid (fun (h1 : plB a = true) (h2 : a.status = 0) (W : World) (h3 : PlR W x a.shares a.keys a.heard) => body_any a x W h3 (PlN.of h1) (run_step h1 h2))
  unfold moF moS moL moB
  generalize plB a = b0 at *
  generalize bodyL a = L at *
  generalize hb1 : decide (a.status = 0) = b1
  have HB1 := Lib.hid hb1
  have LH := Lib.hid h
  have LX := Lib.hid hT
  clear hb1 h hT
  obtain ⟨x_sa, x_sn, x_sc, x_ka, x_kn, x_kc, x_ha, x_hn, x_hc⟩ := x
  dsimp only at *

  go_enter Tryd.func27, Tryd.ntmps27
  go_wp2_with fail
  have V_w1'_1 : Below w.heap.size w (w.alloc (.cells #[.int .i64 a.P, .int .i64 a.party, .int .i64 a.input, .int .i64 a.mask, .int .i64 a.delta, .slice x_sa x_sn x_sc, .slice x_ka x_kn x_kc, .int .i64 a.step, .slice x_ha x_hn x_hc, .int .i64 a.status, .int .i64 a.out] 31)) := ((Below.refl w.heap.size w)).alloc (by have := ((Below.refl w.heap.size w)).size; first | exact this | (simp at *; omega)) _
  have B_a : Blk (w.alloc (.cells #[.int .i64 a.P, .int .i64 a.party, .int .i64 a.input, .int .i64 a.mask, .int .i64 a.delta, .slice x_sa x_sn x_sc, .slice x_ka x_kn x_kc, .int .i64 a.step, .slice x_ha x_hn x_hc, .int .i64 a.status, .int .i64 a.out] 31)) (w.heap.size) 31 #[.int .i64 a.P, .int .i64 a.party, .int .i64 a.input, .int .i64 a.mask, .int .i64 a.delta, .slice x_sa x_sn x_sc, .slice x_ka x_kn x_kc, .int .i64 a.step, .slice x_ha x_hn x_hc, .int .i64 a.status, .int .i64 a.out] := by exact Blk.new w 31 #[.int .i64 a.P, .int .i64 a.party, .int .i64 a.input, .int .i64 a.mask, .int .i64 a.delta, .slice x_sa x_sn x_sc, .slice x_ka x_kn x_kc, .int .i64 a.step, .slice x_ha x_hn x_hc, .int .i64 a.status, .int .i64 a.out]
  have V_w1'_2 : Below w.heap.size w ((w.alloc (.cells #[.int .i64 a.P, .int .i64 a.party, .int .i64 a.input, .int .i64 a.mask, .int .i64 a.delta, .slice x_sa x_sn x_sc, .slice x_ka x_kn x_kc, .int .i64 a.step, .slice x_ha x_hn x_hc, .int .i64 a.status, .int .i64 a.out] 31)).alloc (.cells #[.int .i64 0, .int .i64 0, .slice none 0 0] 44)) := (V_w1'_1).alloc (by have := (V_w1'_1).size; first | exact this | (simp at *; omega)) _
  replace B_a := B_a.alloc (.cells #[.int .i64 0, .int .i64 0, .slice none 0 0] 44)
  have B_r : Blk ((w.alloc (.cells #[.int .i64 a.P, .int .i64 a.party, .int .i64 a.input, .int .i64 a.mask, .int .i64 a.delta, .slice x_sa x_sn x_sc, .slice x_ka x_kn x_kc, .int .i64 a.step, .slice x_ha x_hn x_hc, .int .i64 a.status, .int .i64 a.out] 31)).alloc (.cells #[.int .i64 0, .int .i64 0, .slice none 0 0] 44)) (w.heap.size + 1) 44 #[.int .i64 0, .int .i64 0, .slice none 0 0] := by simpa [World.setCell] using (Blk.new (w.alloc (.cells #[.int .i64 a.P, .int .i64 a.party, .int .i64 a.input, .int .i64 a.mask, .int .i64 a.delta, .slice x_sa x_sn x_sc, .slice x_ka x_kn x_kc, .int .i64 a.step, .slice x_ha x_hn x_hc, .int .i64 a.status, .int .i64 a.out] 31)) 44 #[.int .i64 0, .int .i64 0, .slice none 0 0])
  have S_w1' : w.heap.size + 2 ≤ ((w.alloc (.cells #[.int .i64 a.P, .int .i64 a.party, .int .i64 a.input, .int .i64 a.mask, .int .i64 a.delta, .slice x_sa x_sn x_sc, .slice x_ka x_kn x_kc, .int .i64 a.step, .slice x_ha x_hn x_hc, .int .i64 a.status, .int .i64 a.out] 31)).alloc (.cells #[.int .i64 0, .int .i64 0, .slice none 0 0] 44)).heap.size := by first | (simp; done) | (simp; omega) | (simp [World.setCell]; done) | (simp [World.setCell]; omega)
  generalize ((w.alloc (.cells #[.int .i64 a.P, .int .i64 a.party, .int .i64 a.input, .int .i64 a.mask, .int .i64 a.delta, .slice x_sa x_sn x_sc, .slice x_ka x_kn x_kc, .int .i64 a.step, .slice x_ha x_hn x_hc, .int .i64 a.status, .int .i64 a.out] 31)).alloc (.cells #[.int .i64 0, .int .i64 0, .slice none 0 0] 44)) = w1' at *
  clear V_w1'_1
  have V_w1' : Below w.heap.size w w1' := V_w1'_2
  clear V_w1'_2
  refine (CG.out _ (LH.out.below V_w1') (LX.out.below V_w1')).mono ?_
  rintro e w2' ⟨rfl, u_w2'⟩
  replace B_a := B_a.below u_w2'
  replace B_r := B_r.below u_w2'
  have S_w2' := u_w2'.size
  have V_w2' : Below w.heap.size w w2' := V_w1'.trans (u_w2'.mono V_w1'.size)
  clear V_w1'
  clear u_w2'
  cases b0
  · skip

    have e_a_0 : w2'.cell? ⟨w.heap.size, 0, none⟩ = some (.int .i64 a.P) := B_a.cell 0
    have e_a_1 : w2'.cell? ⟨w.heap.size, 1, none⟩ = some (.int .i64 a.party) := B_a.cell 1
    have e_a_2 : w2'.cell? ⟨w.heap.size, 2, none⟩ = some (.int .i64 a.input) := B_a.cell 2
    have e_a_3 : w2'.cell? ⟨w.heap.size, 3, none⟩ = some (.int .i64 a.mask) := B_a.cell 3
    have e_a_4 : w2'.cell? ⟨w.heap.size, 4, none⟩ = some (.int .i64 a.delta) := B_a.cell 4
    have e_a_5 : w2'.cell? ⟨w.heap.size, 5, none⟩ = some (.slice x_sa x_sn x_sc) := B_a.cell 5
    have e_a_6 : w2'.cell? ⟨w.heap.size, 6, none⟩ = some (.slice x_ka x_kn x_kc) := B_a.cell 6
    have e_a_7 : w2'.cell? ⟨w.heap.size, 7, none⟩ = some (.int .i64 a.step) := B_a.cell 7
    have e_a_8 : w2'.cell? ⟨w.heap.size, 8, none⟩ = some (.slice x_ha x_hn x_hc) := B_a.cell 8
    have e_a_9 : w2'.cell? ⟨w.heap.size, 9, none⟩ = some (.int .i64 a.status) := B_a.cell 9
    have e_a_10 : w2'.cell? ⟨w.heap.size, 10, none⟩ = some (.int .i64 a.out) := B_a.cell 10
    have e_r_0 : w2'.cell? ⟨w.heap.size + 1, 0, none⟩ = some (.int .i64 0) := B_r.cell 0
    have f_r_0 : w2'.frozen? ⟨w.heap.size + 1, 0, none⟩ = false := B_r.frozen 0
    have e_r_1 : w2'.cell? ⟨w.heap.size + 1, 1, none⟩ = some (.int .i64 0) := B_r.cell 1
    have f_r_1 : w2'.frozen? ⟨w.heap.size + 1, 1, none⟩ = false := B_r.frozen 1
    have e_r_2 : w2'.cell? ⟨w.heap.size + 1, 2, none⟩ = some (.slice none 0 0) := B_r.cell 2
    have f_r_2 : w2'.frozen? ⟨w.heap.size + 1, 2, none⟩ = false := B_r.frozen 2
    go_wp2
    clear e_a_0 e_a_1 e_a_2 e_a_3 e_a_4 e_a_5 e_a_6 e_a_7 e_a_8 e_a_9 e_a_10 e_r_0 f_r_0 e_r_1 f_r_1 e_r_2 f_r_2
    have G_1 : Only [w.heap.size + 1] w2' (w2'.setCell ⟨w.heap.size + 1, 0, none⟩ (.int .i64 0)) := (Only.refl _ _).setCell ⟨w.heap.size + 1, 0, none⟩ _ (by simp)
    have V_w3'_1 : Below w.heap.size w (w2'.setCell ⟨w.heap.size + 1, 0, none⟩ (.int .i64 0)) := (V_w2').trans (G_1.below (V_w2').size (fun q hq => by have := (V_w2').size; simp at hq; omega))
    replace B_a := B_a.only G_1 (by first | (simp; done) | (simp; omega))
    replace B_r : Blk (w2'.setCell ⟨w.heap.size + 1, 0, none⟩ (.int .i64 0)) (w.heap.size + 1) 44 #[.int .i64 0, .int .i64 0, .slice none 0 0] := B_r.set_ 0 (.int .i64 0)
    clear G_1
    have G_2 : Only [w.heap.size + 1] (w2'.setCell ⟨w.heap.size + 1, 0, none⟩ (.int .i64 0)) ((w2'.setCell ⟨w.heap.size + 1, 0, none⟩ (.int .i64 0)).setCell ⟨w.heap.size + 1, 1, none⟩ (.int .i64 0)) := (Only.refl _ _).setCell ⟨w.heap.size + 1, 1, none⟩ _ (by simp)
    have V_w3'_2 : Below w.heap.size w ((w2'.setCell ⟨w.heap.size + 1, 0, none⟩ (.int .i64 0)).setCell ⟨w.heap.size + 1, 1, none⟩ (.int .i64 0)) := (V_w3'_1).trans (G_2.below (V_w3'_1).size (fun q hq => by have := (V_w3'_1).size; simp at hq; omega))
    replace B_a := B_a.only G_2 (by first | (simp; done) | (simp; omega))
    replace B_r : Blk ((w2'.setCell ⟨w.heap.size + 1, 0, none⟩ (.int .i64 0)).setCell ⟨w.heap.size + 1, 1, none⟩ (.int .i64 0)) (w.heap.size + 1) 44 #[.int .i64 0, .int .i64 0, .slice none 0 0] := B_r.set_ 1 (.int .i64 0)
    clear G_2
    have G_3 : Only [w.heap.size + 1] ((w2'.setCell ⟨w.heap.size + 1, 0, none⟩ (.int .i64 0)).setCell ⟨w.heap.size + 1, 1, none⟩ (.int .i64 0)) (((w2'.setCell ⟨w.heap.size + 1, 0, none⟩ (.int .i64 0)).setCell ⟨w.heap.size + 1, 1, none⟩ (.int .i64 0)).setCell ⟨w.heap.size + 1, 2, none⟩ (.slice none 0 0)) := (Only.refl _ _).setCell ⟨w.heap.size + 1, 2, none⟩ _ (by simp)
    have V_w3'_3 : Below w.heap.size w (((w2'.setCell ⟨w.heap.size + 1, 0, none⟩ (.int .i64 0)).setCell ⟨w.heap.size + 1, 1, none⟩ (.int .i64 0)).setCell ⟨w.heap.size + 1, 2, none⟩ (.slice none 0 0)) := (V_w3'_2).trans (G_3.below (V_w3'_2).size (fun q hq => by have := (V_w3'_2).size; simp at hq; omega))
    replace B_a := B_a.only G_3 (by first | (simp; done) | (simp; omega))
    replace B_r : Blk (((w2'.setCell ⟨w.heap.size + 1, 0, none⟩ (.int .i64 0)).setCell ⟨w.heap.size + 1, 1, none⟩ (.int .i64 0)).setCell ⟨w.heap.size + 1, 2, none⟩ (.slice none 0 0)) (w.heap.size + 1) 44 #[.int .i64 0, .int .i64 0, .slice none 0 0] := B_r.set_ 2 (.slice none 0 0)
    clear G_3
    have S_w3' : w2'.heap.size + 0 ≤ (((w2'.setCell ⟨w.heap.size + 1, 0, none⟩ (.int .i64 0)).setCell ⟨w.heap.size + 1, 1, none⟩ (.int .i64 0)).setCell ⟨w.heap.size + 1, 2, none⟩ (.slice none 0 0)).heap.size := by first | (simp; done) | (simp; omega) | (simp [World.setCell]; done) | (simp [World.setCell]; omega)
    generalize (((w2'.setCell ⟨w.heap.size + 1, 0, none⟩ (.int .i64 0)).setCell ⟨w.heap.size + 1, 1, none⟩ (.int .i64 0)).setCell ⟨w.heap.size + 1, 2, none⟩ (.slice none 0 0)) = w3' at *
    clear V_w3'_1 V_w3'_2
    have V_w3' : Below w.heap.size w w3' := V_w3'_3
    clear V_w2'
    clear V_w3'_3
    have e_r_0 : w3'.cell? ⟨w.heap.size + 1, 0, none⟩ = some (.int .i64 0) := B_r.cell 0
    have e_r_1 : w3'.cell? ⟨w.heap.size + 1, 1, none⟩ = some (.int .i64 0) := B_r.cell 1
    have e_r_2 : w3'.cell? ⟨w.heap.size + 1, 2, none⟩ = some (.slice none 0 0) := B_r.cell 2
    exact bodyPost_ret (v := .tuple #[.agg #[.int .i64 0, .int .i64 0, .slice none 0 0], .bool false]) (by simp [results, Tryd.results27, go_sem, e_r_0, e_r_1, e_r_2]) rfl ⟨_, _, _, rfl, Own.nil0 _ _ _, V_w3'⟩

  cases b1
  · have d1 : ((a.status != 0) : Bool) = true := by simpa using HB1.out

    have e_a_0 : w2'.cell? ⟨w.heap.size, 0, none⟩ = some (.int .i64 a.P) := B_a.cell 0
    have e_a_1 : w2'.cell? ⟨w.heap.size, 1, none⟩ = some (.int .i64 a.party) := B_a.cell 1
    have e_a_2 : w2'.cell? ⟨w.heap.size, 2, none⟩ = some (.int .i64 a.input) := B_a.cell 2
    have e_a_3 : w2'.cell? ⟨w.heap.size, 3, none⟩ = some (.int .i64 a.mask) := B_a.cell 3
    have e_a_4 : w2'.cell? ⟨w.heap.size, 4, none⟩ = some (.int .i64 a.delta) := B_a.cell 4
    have e_a_5 : w2'.cell? ⟨w.heap.size, 5, none⟩ = some (.slice x_sa x_sn x_sc) := B_a.cell 5
    have e_a_6 : w2'.cell? ⟨w.heap.size, 6, none⟩ = some (.slice x_ka x_kn x_kc) := B_a.cell 6
    have e_a_7 : w2'.cell? ⟨w.heap.size, 7, none⟩ = some (.int .i64 a.step) := B_a.cell 7
    have e_a_8 : w2'.cell? ⟨w.heap.size, 8, none⟩ = some (.slice x_ha x_hn x_hc) := B_a.cell 8
    have e_a_9 : w2'.cell? ⟨w.heap.size, 9, none⟩ = some (.int .i64 a.status) := B_a.cell 9
    have e_a_10 : w2'.cell? ⟨w.heap.size, 10, none⟩ = some (.int .i64 a.out) := B_a.cell 10
    have e_r_0 : w2'.cell? ⟨w.heap.size + 1, 0, none⟩ = some (.int .i64 0) := B_r.cell 0
    have f_r_0 : w2'.frozen? ⟨w.heap.size + 1, 0, none⟩ = false := B_r.frozen 0
    have e_r_1 : w2'.cell? ⟨w.heap.size + 1, 1, none⟩ = some (.int .i64 0) := B_r.cell 1
    have f_r_1 : w2'.frozen? ⟨w.heap.size + 1, 1, none⟩ = false := B_r.frozen 1
    have e_r_2 : w2'.cell? ⟨w.heap.size + 1, 2, none⟩ = some (.slice none 0 0) := B_r.cell 2
    have f_r_2 : w2'.frozen? ⟨w.heap.size + 1, 2, none⟩ = false := B_r.frozen 2
    go_wp2
    clear e_a_0 e_a_1 e_a_2 e_a_3 e_a_4 e_a_5 e_a_6 e_a_7 e_a_8 e_a_9 e_a_10 e_r_0 f_r_0 e_r_1 f_r_1 e_r_2 f_r_2
    have G_1 : Only [w.heap.size + 1] w2' (w2'.setCell ⟨w.heap.size + 1, 0, none⟩ (.int .i64 0)) := (Only.refl _ _).setCell ⟨w.heap.size + 1, 0, none⟩ _ (by simp)
    have V_w4'_1 : Below w.heap.size w (w2'.setCell ⟨w.heap.size + 1, 0, none⟩ (.int .i64 0)) := (V_w2').trans (G_1.below (V_w2').size (fun q hq => by have := (V_w2').size; simp at hq; omega))
    replace B_a := B_a.only G_1 (by first | (simp; done) | (simp; omega))
    replace B_r : Blk (w2'.setCell ⟨w.heap.size + 1, 0, none⟩ (.int .i64 0)) (w.heap.size + 1) 44 #[.int .i64 0, .int .i64 0, .slice none 0 0] := B_r.set_ 0 (.int .i64 0)
    clear G_1
    have G_2 : Only [w.heap.size + 1] (w2'.setCell ⟨w.heap.size + 1, 0, none⟩ (.int .i64 0)) ((w2'.setCell ⟨w.heap.size + 1, 0, none⟩ (.int .i64 0)).setCell ⟨w.heap.size + 1, 1, none⟩ (.int .i64 0)) := (Only.refl _ _).setCell ⟨w.heap.size + 1, 1, none⟩ _ (by simp)
    have V_w4'_2 : Below w.heap.size w ((w2'.setCell ⟨w.heap.size + 1, 0, none⟩ (.int .i64 0)).setCell ⟨w.heap.size + 1, 1, none⟩ (.int .i64 0)) := (V_w4'_1).trans (G_2.below (V_w4'_1).size (fun q hq => by have := (V_w4'_1).size; simp at hq; omega))
    replace B_a := B_a.only G_2 (by first | (simp; done) | (simp; omega))
    replace B_r : Blk ((w2'.setCell ⟨w.heap.size + 1, 0, none⟩ (.int .i64 0)).setCell ⟨w.heap.size + 1, 1, none⟩ (.int .i64 0)) (w.heap.size + 1) 44 #[.int .i64 0, .int .i64 0, .slice none 0 0] := B_r.set_ 1 (.int .i64 0)
    clear G_2
    have G_3 : Only [w.heap.size + 1] ((w2'.setCell ⟨w.heap.size + 1, 0, none⟩ (.int .i64 0)).setCell ⟨w.heap.size + 1, 1, none⟩ (.int .i64 0)) (((w2'.setCell ⟨w.heap.size + 1, 0, none⟩ (.int .i64 0)).setCell ⟨w.heap.size + 1, 1, none⟩ (.int .i64 0)).setCell ⟨w.heap.size + 1, 2, none⟩ (.slice none 0 0)) := (Only.refl _ _).setCell ⟨w.heap.size + 1, 2, none⟩ _ (by simp)
    have V_w4'_3 : Below w.heap.size w (((w2'.setCell ⟨w.heap.size + 1, 0, none⟩ (.int .i64 0)).setCell ⟨w.heap.size + 1, 1, none⟩ (.int .i64 0)).setCell ⟨w.heap.size + 1, 2, none⟩ (.slice none 0 0)) := (V_w4'_2).trans (G_3.below (V_w4'_2).size (fun q hq => by have := (V_w4'_2).size; simp at hq; omega))
    replace B_a := B_a.only G_3 (by first | (simp; done) | (simp; omega))
    replace B_r : Blk (((w2'.setCell ⟨w.heap.size + 1, 0, none⟩ (.int .i64 0)).setCell ⟨w.heap.size + 1, 1, none⟩ (.int .i64 0)).setCell ⟨w.heap.size + 1, 2, none⟩ (.slice none 0 0)) (w.heap.size + 1) 44 #[.int .i64 0, .int .i64 0, .slice none 0 0] := B_r.set_ 2 (.slice none 0 0)
    clear G_3
    have S_w4' : w2'.heap.size + 0 ≤ (((w2'.setCell ⟨w.heap.size + 1, 0, none⟩ (.int .i64 0)).setCell ⟨w.heap.size + 1, 1, none⟩ (.int .i64 0)).setCell ⟨w.heap.size + 1, 2, none⟩ (.slice none 0 0)).heap.size := by first | (simp; done) | (simp; omega) | (simp [World.setCell]; done) | (simp [World.setCell]; omega)
    generalize (((w2'.setCell ⟨w.heap.size + 1, 0, none⟩ (.int .i64 0)).setCell ⟨w.heap.size + 1, 1, none⟩ (.int .i64 0)).setCell ⟨w.heap.size + 1, 2, none⟩ (.slice none 0 0)) = w4' at *
    clear V_w4'_1 V_w4'_2
    have V_w4' : Below w.heap.size w w4' := V_w4'_3
    clear V_w2'
    clear V_w4'_3
    have e_r_0 : w4'.cell? ⟨w.heap.size + 1, 0, none⟩ = some (.int .i64 0) := B_r.cell 0
    have e_r_1 : w4'.cell? ⟨w.heap.size + 1, 1, none⟩ = some (.int .i64 0) := B_r.cell 1
    have e_r_2 : w4'.cell? ⟨w.heap.size + 1, 2, none⟩ = some (.slice none 0 0) := B_r.cell 2
    exact bodyPost_ret (v := .tuple #[.agg #[.int .i64 0, .int .i64 0, .slice none 0 0], .bool false]) (by simp [results, Tryd.results27, go_sem, e_r_0, e_r_1, e_r_2]) rfl ⟨_, _, _, rfl, Own.nil0 _ _ _, V_w4'⟩

  have h0 : a.status = 0 := by simpa using HB1.out
  have d1 : ((a.status != 0) : Bool) = false := by simpa using h0
  replace CM := Lib.hid (CM.out rfl h0)
  clear h0
  have e_a_0 : w2'.cell? ⟨w.heap.size, 0, none⟩ = some (.int .i64 a.P) := B_a.cell 0
  have e_a_1 : w2'.cell? ⟨w.heap.size, 1, none⟩ = some (.int .i64 a.party) := B_a.cell 1
  have e_a_2 : w2'.cell? ⟨w.heap.size, 2, none⟩ = some (.int .i64 a.input) := B_a.cell 2
  have e_a_3 : w2'.cell? ⟨w.heap.size, 3, none⟩ = some (.int .i64 a.mask) := B_a.cell 3
  have e_a_4 : w2'.cell? ⟨w.heap.size, 4, none⟩ = some (.int .i64 a.delta) := B_a.cell 4
  have e_a_5 : w2'.cell? ⟨w.heap.size, 5, none⟩ = some (.slice x_sa x_sn x_sc) := B_a.cell 5
  have e_a_6 : w2'.cell? ⟨w.heap.size, 6, none⟩ = some (.slice x_ka x_kn x_kc) := B_a.cell 6
  have e_a_7 : w2'.cell? ⟨w.heap.size, 7, none⟩ = some (.int .i64 a.step) := B_a.cell 7
  have e_a_8 : w2'.cell? ⟨w.heap.size, 8, none⟩ = some (.slice x_ha x_hn x_hc) := B_a.cell 8
  have e_a_9 : w2'.cell? ⟨w.heap.size, 9, none⟩ = some (.int .i64 a.status) := B_a.cell 9
  have e_a_10 : w2'.cell? ⟨w.heap.size, 10, none⟩ = some (.int .i64 a.out) := B_a.cell 10
  go_wp2
  clear e_a_0 e_a_1 e_a_2 e_a_3 e_a_4 e_a_5 e_a_6 e_a_7 e_a_8 e_a_9 e_a_10
  have hR := (LH.out.below V_w2').drew
  have hrw : w.heap.size ≠ w.heap.size + 1 := by omega
  have e_a_0 : w2'.cell? ⟨w.heap.size, 0, none⟩ = some (.int .i64 a.P) := B_a.cell 0
  have e_a_1 : w2'.cell? ⟨w.heap.size, 1, none⟩ = some (.int .i64 a.party) := B_a.cell 1
  have e_a_2 : w2'.cell? ⟨w.heap.size, 2, none⟩ = some (.int .i64 a.input) := B_a.cell 2
  have e_a_3 : w2'.cell? ⟨w.heap.size, 3, none⟩ = some (.int .i64 a.mask) := B_a.cell 3
  have e_a_4 : w2'.cell? ⟨w.heap.size, 4, none⟩ = some (.int .i64 a.delta) := B_a.cell 4
  have e_a_5 : w2'.cell? ⟨w.heap.size, 5, none⟩ = some (.slice x_sa x_sn x_sc) := B_a.cell 5
  have e_a_6 : w2'.cell? ⟨w.heap.size, 6, none⟩ = some (.slice x_ka x_kn x_kc) := B_a.cell 6
  have e_a_7 : w2'.cell? ⟨w.heap.size, 7, none⟩ = some (.int .i64 a.step) := B_a.cell 7
  have e_a_8 : w2'.cell? ⟨w.heap.size, 8, none⟩ = some (.slice x_ha x_hn x_hc) := B_a.cell 8
  have e_a_9 : w2'.cell? ⟨w.heap.size, 9, none⟩ = some (.int .i64 a.status) := B_a.cell 9
  have e_a_10 : w2'.cell? ⟨w.heap.size, 10, none⟩ = some (.int .i64 a.out) := B_a.cell 10
  go_wp2
  go_region_held3 (fun W => W.cell? ⟨w.heap.size, 0, none⟩ = some (.int .i64 a.P) ∧ W.cell? ⟨w.heap.size, 1, none⟩ = some (.int .i64 a.party) ∧ W.cell? ⟨w.heap.size, 2, none⟩ = some (.int .i64 a.input) ∧ W.cell? ⟨w.heap.size, 3, none⟩ = some (.int .i64 a.mask) ∧ W.cell? ⟨w.heap.size, 4, none⟩ = some (.int .i64 a.delta) ∧ W.cell? ⟨w.heap.size, 5, none⟩ = some (.slice x_sa x_sn x_sc) ∧ W.cell? ⟨w.heap.size, 6, none⟩ = some (.slice x_ka x_kn x_kc) ∧ W.cell? ⟨w.heap.size, 7, none⟩ = some (.int .i64 a.step) ∧ W.cell? ⟨w.heap.size, 8, none⟩ = some (.slice x_ha x_hn x_hc) ∧ W.cell? ⟨w.heap.size, 9, none⟩ = some (.int .i64 a.status) ∧ W.cell? ⟨w.heap.size, 10, none⟩ = some (.int .i64 a.out))
    (first | exact ⟨e_a_0, e_a_1, e_a_2, e_a_3, e_a_4, e_a_5, e_a_6, e_a_7, e_a_8, e_a_9, e_a_10⟩ | exact ⟨keepC u e_a_0, keepC u e_a_1, keepC u e_a_2, keepC u e_a_3, keepC u e_a_4, keepC u e_a_5, keepC u e_a_6, keepC u e_a_7, keepC u e_a_8, keepC u e_a_9, keepC u e_a_10⟩ | exact ⟨cellFar (cellFar (cellFar (keepC u e_a_0) hrw) hrw) hrw, cellFar (cellFar (cellFar (keepC u e_a_1) hrw) hrw) hrw, cellFar (cellFar (cellFar (keepC u e_a_2) hrw) hrw) hrw, cellFar (cellFar (cellFar (keepC u e_a_3) hrw) hrw) hrw, cellFar (cellFar (cellFar (keepC u e_a_4) hrw) hrw) hrw, cellFar (cellFar (cellFar (keepC u e_a_5) hrw) hrw) hrw, cellFar (cellFar (cellFar (keepC u e_a_6) hrw) hrw) hrw, cellFar (cellFar (cellFar (keepC u e_a_7) hrw) hrw) hrw, cellFar (cellFar (cellFar (keepC u e_a_8) hrw) hrw) hrw, cellFar (cellFar (cellFar (keepC u e_a_9) hrw) hrw) hrw, cellFar (cellFar (cellFar (keepC u e_a_10) hrw) hrw) hrw⟩ | go_keep)
    (first | (go_at_call 73; refine (CM.out _ hR).mono ?_; rintro e wz ⟨bz, cz, rfl, oz, u⟩; have BR : Blk wz (w.heap.size + 1) 44 #[.int .i64 0, .int .i64 0, .slice none 0 0] := B_r.drew.below u; have br0 := BR.cell 0; have fr0 := BR.frozen 0; have br1 := BR.cell 1; have fr1 := BR.frozen 1; have br2 := BR.cell 2; have fr2 := BR.frozen 2))
  have u9 : Below w2'.heap.size w2' wz := (Below.refl _ _).drew.trans u
  clear u BR hR br0 br1 br2 fr0 fr1 fr2
  clear e_a_0 e_a_1 e_a_2 e_a_3 e_a_4 e_a_5 e_a_6 e_a_7 e_a_8 e_a_9 e_a_10
  replace B_a := B_a.below u9
  replace B_r := B_r.below u9
  have S_wz := u9.size
  have V_wz : Below w.heap.size w wz := V_w2'.trans (u9.mono V_w2'.size)
  clear V_w2'
  clear u9
  replace oz := oz.lower (b' := w.heap.size + 2) (show w.heap.size + 2 ≤ w2'.drew.heap.size from Nat.le_trans S_w1' S_w2')

  have Q_oz := Lib.hid oz.feet
  have G_1 : Only [w.heap.size + 1] wz (wz.setCell ⟨w.heap.size + 1, 0, none⟩ (.int .i64 a.party)) := (Only.refl _ _).setCell ⟨w.heap.size + 1, 0, none⟩ _ (by simp)
  have V_w5'_1 : Below w.heap.size w (wz.setCell ⟨w.heap.size + 1, 0, none⟩ (.int .i64 a.party)) := (V_wz).trans (G_1.below (V_wz).size (fun q hq => by have := (V_wz).size; simp at hq; omega))
  replace B_a := B_a.only G_1 (by first | (simp; done) | (simp; omega))
  replace B_r : Blk (wz.setCell ⟨w.heap.size + 1, 0, none⟩ (.int .i64 a.party)) (w.heap.size + 1) 44 #[.int .i64 a.party, .int .i64 0, .slice none 0 0] := B_r.set_ 0 (.int .i64 a.party)
  replace oz := oz.only G_1 (fun q hq hq' => by have := Q_oz.out q hq; simp at hq'; omega)
  clear G_1
  have G_2 : Only [w.heap.size + 1] (wz.setCell ⟨w.heap.size + 1, 0, none⟩ (.int .i64 a.party)) ((wz.setCell ⟨w.heap.size + 1, 0, none⟩ (.int .i64 a.party)).setCell ⟨w.heap.size + 1, 1, none⟩ (.int .i64 a.step)) := (Only.refl _ _).setCell ⟨w.heap.size + 1, 1, none⟩ _ (by simp)
  have V_w5'_2 : Below w.heap.size w ((wz.setCell ⟨w.heap.size + 1, 0, none⟩ (.int .i64 a.party)).setCell ⟨w.heap.size + 1, 1, none⟩ (.int .i64 a.step)) := (V_w5'_1).trans (G_2.below (V_w5'_1).size (fun q hq => by have := (V_w5'_1).size; simp at hq; omega))
  replace B_a := B_a.only G_2 (by first | (simp; done) | (simp; omega))
  replace B_r : Blk ((wz.setCell ⟨w.heap.size + 1, 0, none⟩ (.int .i64 a.party)).setCell ⟨w.heap.size + 1, 1, none⟩ (.int .i64 a.step)) (w.heap.size + 1) 44 #[.int .i64 a.party, .int .i64 a.step, .slice none 0 0] := B_r.set_ 1 (.int .i64 a.step)
  replace oz := oz.only G_2 (fun q hq hq' => by have := Q_oz.out q hq; simp at hq'; omega)
  clear G_2
  have G_3 : Only [w.heap.size + 1] ((wz.setCell ⟨w.heap.size + 1, 0, none⟩ (.int .i64 a.party)).setCell ⟨w.heap.size + 1, 1, none⟩ (.int .i64 a.step)) (((wz.setCell ⟨w.heap.size + 1, 0, none⟩ (.int .i64 a.party)).setCell ⟨w.heap.size + 1, 1, none⟩ (.int .i64 a.step)).setCell ⟨w.heap.size + 1, 2, none⟩ (.slice bz L.length cz)) := (Only.refl _ _).setCell ⟨w.heap.size + 1, 2, none⟩ _ (by simp)
  have V_w5'_3 : Below w.heap.size w (((wz.setCell ⟨w.heap.size + 1, 0, none⟩ (.int .i64 a.party)).setCell ⟨w.heap.size + 1, 1, none⟩ (.int .i64 a.step)).setCell ⟨w.heap.size + 1, 2, none⟩ (.slice bz L.length cz)) := (V_w5'_2).trans (G_3.below (V_w5'_2).size (fun q hq => by have := (V_w5'_2).size; simp at hq; omega))
  replace B_a := B_a.only G_3 (by first | (simp; done) | (simp; omega))
  replace B_r : Blk (((wz.setCell ⟨w.heap.size + 1, 0, none⟩ (.int .i64 a.party)).setCell ⟨w.heap.size + 1, 1, none⟩ (.int .i64 a.step)).setCell ⟨w.heap.size + 1, 2, none⟩ (.slice bz L.length cz)) (w.heap.size + 1) 44 #[.int .i64 a.party, .int .i64 a.step, .slice bz L.length cz] := B_r.set_ 2 (.slice bz L.length cz)
  replace oz := oz.only G_3 (fun q hq hq' => by have := Q_oz.out q hq; simp at hq'; omega)
  clear G_3
  have S_w5' : wz.heap.size + 0 ≤ (((wz.setCell ⟨w.heap.size + 1, 0, none⟩ (.int .i64 a.party)).setCell ⟨w.heap.size + 1, 1, none⟩ (.int .i64 a.step)).setCell ⟨w.heap.size + 1, 2, none⟩ (.slice bz L.length cz)).heap.size := by first | (simp; done) | (simp; omega) | (simp [World.setCell]; done) | (simp [World.setCell]; omega)
  generalize (((wz.setCell ⟨w.heap.size + 1, 0, none⟩ (.int .i64 a.party)).setCell ⟨w.heap.size + 1, 1, none⟩ (.int .i64 a.step)).setCell ⟨w.heap.size + 1, 2, none⟩ (.slice bz L.length cz)) = w5' at *
  clear V_w5'_1 V_w5'_2
  have V_w5' : Below w.heap.size w w5' := V_w5'_3
  clear V_wz
  clear V_w5'_3
  have e_r_0 : w5'.cell? ⟨w.heap.size + 1, 0, none⟩ = some (.int .i64 a.party) := B_r.cell 0
  have e_r_1 : w5'.cell? ⟨w.heap.size + 1, 1, none⟩ = some (.int .i64 a.step) := B_r.cell 1
  have e_r_2 : w5'.cell? ⟨w.heap.size + 1, 2, none⟩ = some (.slice bz L.length cz) := B_r.cell 2
  go_wp2
  exact bodyPost_ret (v := .tuple #[.agg #[.int .i64 a.party, .int .i64 a.step, .slice bz L.length cz], .bool true]) (by simp [results, Tryd.results27, go_sem, e_r_0, e_r_1, e_r_2]) rfl ⟨_, _, _, rfl, oz.lower (by omega), V_w5'⟩
set_option maxHeartbeats 8000000 in
set_option maxRecDepth 100000 in
theorem spec_MessageOf_any (a : Pl) (x : PlX) (w : World) (h : PlR w x a.shares a.keys a.heard) (_hT : Tbl w) :
    Calls Tryd.prog 26 #[.agg #[.int .i64 a.P, .int .i64 a.party, .int .i64 a.input, .int .i64 a.mask, .int .i64 a.delta, .slice x.sa x.sn x.sc, .slice x.ka x.kn x.kc, .int .i64 a.step, .slice x.ha x.hn x.hc, .int .i64 a.status, .int .i64 a.out]] w fun e w' => ∃ b n c, e = .returned (.tuple #[.agg #[.int .i64 (moF a), .int .i64 (moS a), .slice b n c], .bool (moB a)]) ∧ Own w' w.heap.size b n c (moL a) ∧ Below w.heap.size w w' := by
  have CG := Lib.hid (fun (W : World) (h2 : PlR W x a.shares a.keys a.heard) => ptGood_any a x W h2)
  have CM := Lib.hid (fun (h1 : plB a = true) (h2 : a.status = 0) (W : World) (h3 : PlR W x a.shares a.keys a.heard) => ptMessage_any a x W h3 (PlN.of h1) (run_step h1 h2))
  unfold moF moS moL moB
  generalize plB a = b0 at *
  generalize bodyL a = L at *
  generalize hb1 : decide (a.status = 0) = b1
  have HB1 := Lib.hid hb1
  have LH := Lib.hid h
  clear hb1 h
  obtain ⟨x_sa, x_sn, x_sc, x_ka, x_kn, x_kc, x_ha, x_hn, x_hc⟩ := x
  dsimp only at *

  go_enter Tryd.func26, Tryd.ntmps26
  go_wp2_with fail
  have V_w1'_1 : Below w.heap.size w (w.alloc (.cells #[.int .i64 a.P, .int .i64 a.party, .int .i64 a.input, .int .i64 a.mask, .int .i64 a.delta, .slice x_sa x_sn x_sc, .slice x_ka x_kn x_kc, .int .i64 a.step, .slice x_ha x_hn x_hc, .int .i64 a.status, .int .i64 a.out] 31)) := ((Below.refl w.heap.size w)).alloc (by have := ((Below.refl w.heap.size w)).size; first | exact this | (simp at *; omega)) _
  have B_a : Blk (w.alloc (.cells #[.int .i64 a.P, .int .i64 a.party, .int .i64 a.input, .int .i64 a.mask, .int .i64 a.delta, .slice x_sa x_sn x_sc, .slice x_ka x_kn x_kc, .int .i64 a.step, .slice x_ha x_hn x_hc, .int .i64 a.status, .int .i64 a.out] 31)) (w.heap.size) 31 #[.int .i64 a.P, .int .i64 a.party, .int .i64 a.input, .int .i64 a.mask, .int .i64 a.delta, .slice x_sa x_sn x_sc, .slice x_ka x_kn x_kc, .int .i64 a.step, .slice x_ha x_hn x_hc, .int .i64 a.status, .int .i64 a.out] := by exact Blk.new w 31 #[.int .i64 a.P, .int .i64 a.party, .int .i64 a.input, .int .i64 a.mask, .int .i64 a.delta, .slice x_sa x_sn x_sc, .slice x_ka x_kn x_kc, .int .i64 a.step, .slice x_ha x_hn x_hc, .int .i64 a.status, .int .i64 a.out]
  have V_w1'_2 : Below w.heap.size w ((w.alloc (.cells #[.int .i64 a.P, .int .i64 a.party, .int .i64 a.input, .int .i64 a.mask, .int .i64 a.delta, .slice x_sa x_sn x_sc, .slice x_ka x_kn x_kc, .int .i64 a.step, .slice x_ha x_hn x_hc, .int .i64 a.status, .int .i64 a.out] 31)).alloc (.cells #[.int .i64 0, .int .i64 0, .slice none 0 0] 44)) := (V_w1'_1).alloc (by have := (V_w1'_1).size; first | exact this | (simp at *; omega)) _
  replace B_a := B_a.alloc (.cells #[.int .i64 0, .int .i64 0, .slice none 0 0] 44)
  have B_r : Blk ((w.alloc (.cells #[.int .i64 a.P, .int .i64 a.party, .int .i64 a.input, .int .i64 a.mask, .int .i64 a.delta, .slice x_sa x_sn x_sc, .slice x_ka x_kn x_kc, .int .i64 a.step, .slice x_ha x_hn x_hc, .int .i64 a.status, .int .i64 a.out] 31)).alloc (.cells #[.int .i64 0, .int .i64 0, .slice none 0 0] 44)) (w.heap.size + 1) 44 #[.int .i64 0, .int .i64 0, .slice none 0 0] := by simpa [World.setCell] using (Blk.new (w.alloc (.cells #[.int .i64 a.P, .int .i64 a.party, .int .i64 a.input, .int .i64 a.mask, .int .i64 a.delta, .slice x_sa x_sn x_sc, .slice x_ka x_kn x_kc, .int .i64 a.step, .slice x_ha x_hn x_hc, .int .i64 a.status, .int .i64 a.out] 31)) 44 #[.int .i64 0, .int .i64 0, .slice none 0 0])
  have S_w1' : w.heap.size + 2 ≤ ((w.alloc (.cells #[.int .i64 a.P, .int .i64 a.party, .int .i64 a.input, .int .i64 a.mask, .int .i64 a.delta, .slice x_sa x_sn x_sc, .slice x_ka x_kn x_kc, .int .i64 a.step, .slice x_ha x_hn x_hc, .int .i64 a.status, .int .i64 a.out] 31)).alloc (.cells #[.int .i64 0, .int .i64 0, .slice none 0 0] 44)).heap.size := by first | (simp; done) | (simp; omega) | (simp [World.setCell]; done) | (simp [World.setCell]; omega)
  generalize ((w.alloc (.cells #[.int .i64 a.P, .int .i64 a.party, .int .i64 a.input, .int .i64 a.mask, .int .i64 a.delta, .slice x_sa x_sn x_sc, .slice x_ka x_kn x_kc, .int .i64 a.step, .slice x_ha x_hn x_hc, .int .i64 a.status, .int .i64 a.out] 31)).alloc (.cells #[.int .i64 0, .int .i64 0, .slice none 0 0] 44)) = w1' at *
  clear V_w1'_1
  have V_w1' : Below w.heap.size w w1' := V_w1'_2
  clear V_w1'_2
  refine (CG.out _ (LH.out.below V_w1')).mono ?_
  rintro e w2' ⟨rfl, u_w2'⟩
  replace B_a := B_a.below u_w2'
  replace B_r := B_r.below u_w2'
  have S_w2' := u_w2'.size
  have V_w2' : Below w.heap.size w w2' := V_w1'.trans (u_w2'.mono V_w1'.size)
  clear V_w1'
  clear u_w2'
  cases b0
  · skip

    have e_a_0 : w2'.cell? ⟨w.heap.size, 0, none⟩ = some (.int .i64 a.P) := B_a.cell 0
    have e_a_1 : w2'.cell? ⟨w.heap.size, 1, none⟩ = some (.int .i64 a.party) := B_a.cell 1
    have e_a_2 : w2'.cell? ⟨w.heap.size, 2, none⟩ = some (.int .i64 a.input) := B_a.cell 2
    have e_a_3 : w2'.cell? ⟨w.heap.size, 3, none⟩ = some (.int .i64 a.mask) := B_a.cell 3
    have e_a_4 : w2'.cell? ⟨w.heap.size, 4, none⟩ = some (.int .i64 a.delta) := B_a.cell 4
    have e_a_5 : w2'.cell? ⟨w.heap.size, 5, none⟩ = some (.slice x_sa x_sn x_sc) := B_a.cell 5
    have e_a_6 : w2'.cell? ⟨w.heap.size, 6, none⟩ = some (.slice x_ka x_kn x_kc) := B_a.cell 6
    have e_a_7 : w2'.cell? ⟨w.heap.size, 7, none⟩ = some (.int .i64 a.step) := B_a.cell 7
    have e_a_8 : w2'.cell? ⟨w.heap.size, 8, none⟩ = some (.slice x_ha x_hn x_hc) := B_a.cell 8
    have e_a_9 : w2'.cell? ⟨w.heap.size, 9, none⟩ = some (.int .i64 a.status) := B_a.cell 9
    have e_a_10 : w2'.cell? ⟨w.heap.size, 10, none⟩ = some (.int .i64 a.out) := B_a.cell 10
    have e_r_0 : w2'.cell? ⟨w.heap.size + 1, 0, none⟩ = some (.int .i64 0) := B_r.cell 0
    have f_r_0 : w2'.frozen? ⟨w.heap.size + 1, 0, none⟩ = false := B_r.frozen 0
    have e_r_1 : w2'.cell? ⟨w.heap.size + 1, 1, none⟩ = some (.int .i64 0) := B_r.cell 1
    have f_r_1 : w2'.frozen? ⟨w.heap.size + 1, 1, none⟩ = false := B_r.frozen 1
    have e_r_2 : w2'.cell? ⟨w.heap.size + 1, 2, none⟩ = some (.slice none 0 0) := B_r.cell 2
    have f_r_2 : w2'.frozen? ⟨w.heap.size + 1, 2, none⟩ = false := B_r.frozen 2
    go_wp2
    clear e_a_0 e_a_1 e_a_2 e_a_3 e_a_4 e_a_5 e_a_6 e_a_7 e_a_8 e_a_9 e_a_10 e_r_0 f_r_0 e_r_1 f_r_1 e_r_2 f_r_2
    have G_1 : Only [w.heap.size + 1] w2' (w2'.setCell ⟨w.heap.size + 1, 0, none⟩ (.int .i64 0)) := (Only.refl _ _).setCell ⟨w.heap.size + 1, 0, none⟩ _ (by simp)
    have V_w3'_1 : Below w.heap.size w (w2'.setCell ⟨w.heap.size + 1, 0, none⟩ (.int .i64 0)) := (V_w2').trans (G_1.below (V_w2').size (fun q hq => by have := (V_w2').size; simp at hq; omega))
    replace B_a := B_a.only G_1 (by first | (simp; done) | (simp; omega))
    replace B_r : Blk (w2'.setCell ⟨w.heap.size + 1, 0, none⟩ (.int .i64 0)) (w.heap.size + 1) 44 #[.int .i64 0, .int .i64 0, .slice none 0 0] := B_r.set_ 0 (.int .i64 0)
    clear G_1
    have G_2 : Only [w.heap.size + 1] (w2'.setCell ⟨w.heap.size + 1, 0, none⟩ (.int .i64 0)) ((w2'.setCell ⟨w.heap.size + 1, 0, none⟩ (.int .i64 0)).setCell ⟨w.heap.size + 1, 1, none⟩ (.int .i64 0)) := (Only.refl _ _).setCell ⟨w.heap.size + 1, 1, none⟩ _ (by simp)
    have V_w3'_2 : Below w.heap.size w ((w2'.setCell ⟨w.heap.size + 1, 0, none⟩ (.int .i64 0)).setCell ⟨w.heap.size + 1, 1, none⟩ (.int .i64 0)) := (V_w3'_1).trans (G_2.below (V_w3'_1).size (fun q hq => by have := (V_w3'_1).size; simp at hq; omega))
    replace B_a := B_a.only G_2 (by first | (simp; done) | (simp; omega))
    replace B_r : Blk ((w2'.setCell ⟨w.heap.size + 1, 0, none⟩ (.int .i64 0)).setCell ⟨w.heap.size + 1, 1, none⟩ (.int .i64 0)) (w.heap.size + 1) 44 #[.int .i64 0, .int .i64 0, .slice none 0 0] := B_r.set_ 1 (.int .i64 0)
    clear G_2
    have G_3 : Only [w.heap.size + 1] ((w2'.setCell ⟨w.heap.size + 1, 0, none⟩ (.int .i64 0)).setCell ⟨w.heap.size + 1, 1, none⟩ (.int .i64 0)) (((w2'.setCell ⟨w.heap.size + 1, 0, none⟩ (.int .i64 0)).setCell ⟨w.heap.size + 1, 1, none⟩ (.int .i64 0)).setCell ⟨w.heap.size + 1, 2, none⟩ (.slice none 0 0)) := (Only.refl _ _).setCell ⟨w.heap.size + 1, 2, none⟩ _ (by simp)
    have V_w3'_3 : Below w.heap.size w (((w2'.setCell ⟨w.heap.size + 1, 0, none⟩ (.int .i64 0)).setCell ⟨w.heap.size + 1, 1, none⟩ (.int .i64 0)).setCell ⟨w.heap.size + 1, 2, none⟩ (.slice none 0 0)) := (V_w3'_2).trans (G_3.below (V_w3'_2).size (fun q hq => by have := (V_w3'_2).size; simp at hq; omega))
    replace B_a := B_a.only G_3 (by first | (simp; done) | (simp; omega))
    replace B_r : Blk (((w2'.setCell ⟨w.heap.size + 1, 0, none⟩ (.int .i64 0)).setCell ⟨w.heap.size + 1, 1, none⟩ (.int .i64 0)).setCell ⟨w.heap.size + 1, 2, none⟩ (.slice none 0 0)) (w.heap.size + 1) 44 #[.int .i64 0, .int .i64 0, .slice none 0 0] := B_r.set_ 2 (.slice none 0 0)
    clear G_3
    have S_w3' : w2'.heap.size + 0 ≤ (((w2'.setCell ⟨w.heap.size + 1, 0, none⟩ (.int .i64 0)).setCell ⟨w.heap.size + 1, 1, none⟩ (.int .i64 0)).setCell ⟨w.heap.size + 1, 2, none⟩ (.slice none 0 0)).heap.size := by first | (simp; done) | (simp; omega) | (simp [World.setCell]; done) | (simp [World.setCell]; omega)
    generalize (((w2'.setCell ⟨w.heap.size + 1, 0, none⟩ (.int .i64 0)).setCell ⟨w.heap.size + 1, 1, none⟩ (.int .i64 0)).setCell ⟨w.heap.size + 1, 2, none⟩ (.slice none 0 0)) = w3' at *
    clear V_w3'_1 V_w3'_2
    have V_w3' : Below w.heap.size w w3' := V_w3'_3
    clear V_w2'
    clear V_w3'_3
    have e_r_0 : w3'.cell? ⟨w.heap.size + 1, 0, none⟩ = some (.int .i64 0) := B_r.cell 0
    have e_r_1 : w3'.cell? ⟨w.heap.size + 1, 1, none⟩ = some (.int .i64 0) := B_r.cell 1
    have e_r_2 : w3'.cell? ⟨w.heap.size + 1, 2, none⟩ = some (.slice none 0 0) := B_r.cell 2
    exact bodyPost_ret (v := .tuple #[.agg #[.int .i64 0, .int .i64 0, .slice none 0 0], .bool false]) (by simp [results, Tryd.results26, go_sem, e_r_0, e_r_1, e_r_2]) rfl ⟨_, _, _, rfl, Own.nil0 _ _ _, V_w3'⟩

  cases b1
  · have d1 : ((a.status != 0) : Bool) = true := by simpa using HB1.out

    have e_a_0 : w2'.cell? ⟨w.heap.size, 0, none⟩ = some (.int .i64 a.P) := B_a.cell 0
    have e_a_1 : w2'.cell? ⟨w.heap.size, 1, none⟩ = some (.int .i64 a.party) := B_a.cell 1
    have e_a_2 : w2'.cell? ⟨w.heap.size, 2, none⟩ = some (.int .i64 a.input) := B_a.cell 2
    have e_a_3 : w2'.cell? ⟨w.heap.size, 3, none⟩ = some (.int .i64 a.mask) := B_a.cell 3
    have e_a_4 : w2'.cell? ⟨w.heap.size, 4, none⟩ = some (.int .i64 a.delta) := B_a.cell 4
    have e_a_5 : w2'.cell? ⟨w.heap.size, 5, none⟩ = some (.slice x_sa x_sn x_sc) := B_a.cell 5
    have e_a_6 : w2'.cell? ⟨w.heap.size, 6, none⟩ = some (.slice x_ka x_kn x_kc) := B_a.cell 6
    have e_a_7 : w2'.cell? ⟨w.heap.size, 7, none⟩ = some (.int .i64 a.step) := B_a.cell 7
    have e_a_8 : w2'.cell? ⟨w.heap.size, 8, none⟩ = some (.slice x_ha x_hn x_hc) := B_a.cell 8
    have e_a_9 : w2'.cell? ⟨w.heap.size, 9, none⟩ = some (.int .i64 a.status) := B_a.cell 9
    have e_a_10 : w2'.cell? ⟨w.heap.size, 10, none⟩ = some (.int .i64 a.out) := B_a.cell 10
    have e_r_0 : w2'.cell? ⟨w.heap.size + 1, 0, none⟩ = some (.int .i64 0) := B_r.cell 0
    have f_r_0 : w2'.frozen? ⟨w.heap.size + 1, 0, none⟩ = false := B_r.frozen 0
    have e_r_1 : w2'.cell? ⟨w.heap.size + 1, 1, none⟩ = some (.int .i64 0) := B_r.cell 1
    have f_r_1 : w2'.frozen? ⟨w.heap.size + 1, 1, none⟩ = false := B_r.frozen 1
    have e_r_2 : w2'.cell? ⟨w.heap.size + 1, 2, none⟩ = some (.slice none 0 0) := B_r.cell 2
    have f_r_2 : w2'.frozen? ⟨w.heap.size + 1, 2, none⟩ = false := B_r.frozen 2
    go_wp2
    clear e_a_0 e_a_1 e_a_2 e_a_3 e_a_4 e_a_5 e_a_6 e_a_7 e_a_8 e_a_9 e_a_10 e_r_0 f_r_0 e_r_1 f_r_1 e_r_2 f_r_2
    have G_1 : Only [w.heap.size + 1] w2' (w2'.setCell ⟨w.heap.size + 1, 0, none⟩ (.int .i64 0)) := (Only.refl _ _).setCell ⟨w.heap.size + 1, 0, none⟩ _ (by simp)
    have V_w4'_1 : Below w.heap.size w (w2'.setCell ⟨w.heap.size + 1, 0, none⟩ (.int .i64 0)) := (V_w2').trans (G_1.below (V_w2').size (fun q hq => by have := (V_w2').size; simp at hq; omega))
    replace B_a := B_a.only G_1 (by first | (simp; done) | (simp; omega))
    replace B_r : Blk (w2'.setCell ⟨w.heap.size + 1, 0, none⟩ (.int .i64 0)) (w.heap.size + 1) 44 #[.int .i64 0, .int .i64 0, .slice none 0 0] := B_r.set_ 0 (.int .i64 0)
    clear G_1
    have G_2 : Only [w.heap.size + 1] (w2'.setCell ⟨w.heap.size + 1, 0, none⟩ (.int .i64 0)) ((w2'.setCell ⟨w.heap.size + 1, 0, none⟩ (.int .i64 0)).setCell ⟨w.heap.size + 1, 1, none⟩ (.int .i64 0)) := (Only.refl _ _).setCell ⟨w.heap.size + 1, 1, none⟩ _ (by simp)
    have V_w4'_2 : Below w.heap.size w ((w2'.setCell ⟨w.heap.size + 1, 0, none⟩ (.int .i64 0)).setCell ⟨w.heap.size + 1, 1, none⟩ (.int .i64 0)) := (V_w4'_1).trans (G_2.below (V_w4'_1).size (fun q hq => by have := (V_w4'_1).size; simp at hq; omega))
    replace B_a := B_a.only G_2 (by first | (simp; done) | (simp; omega))
    replace B_r : Blk ((w2'.setCell ⟨w.heap.size + 1, 0, none⟩ (.int .i64 0)).setCell ⟨w.heap.size + 1, 1, none⟩ (.int .i64 0)) (w.heap.size + 1) 44 #[.int .i64 0, .int .i64 0, .slice none 0 0] := B_r.set_ 1 (.int .i64 0)
    clear G_2
    have G_3 : Only [w.heap.size + 1] ((w2'.setCell ⟨w.heap.size + 1, 0, none⟩ (.int .i64 0)).setCell ⟨w.heap.size + 1, 1, none⟩ (.int .i64 0)) (((w2'.setCell ⟨w.heap.size + 1, 0, none⟩ (.int .i64 0)).setCell ⟨w.heap.size + 1, 1, none⟩ (.int .i64 0)).setCell ⟨w.heap.size + 1, 2, none⟩ (.slice none 0 0)) := (Only.refl _ _).setCell ⟨w.heap.size + 1, 2, none⟩ _ (by simp)
    have V_w4'_3 : Below w.heap.size w (((w2'.setCell ⟨w.heap.size + 1, 0, none⟩ (.int .i64 0)).setCell ⟨w.heap.size + 1, 1, none⟩ (.int .i64 0)).setCell ⟨w.heap.size + 1, 2, none⟩ (.slice none 0 0)) := (V_w4'_2).trans (G_3.below (V_w4'_2).size (fun q hq => by have := (V_w4'_2).size; simp at hq; omega))
    replace B_a := B_a.only G_3 (by first | (simp; done) | (simp; omega))
    replace B_r : Blk (((w2'.setCell ⟨w.heap.size + 1, 0, none⟩ (.int .i64 0)).setCell ⟨w.heap.size + 1, 1, none⟩ (.int .i64 0)).setCell ⟨w.heap.size + 1, 2, none⟩ (.slice none 0 0)) (w.heap.size + 1) 44 #[.int .i64 0, .int .i64 0, .slice none 0 0] := B_r.set_ 2 (.slice none 0 0)
    clear G_3
    have S_w4' : w2'.heap.size + 0 ≤ (((w2'.setCell ⟨w.heap.size + 1, 0, none⟩ (.int .i64 0)).setCell ⟨w.heap.size + 1, 1, none⟩ (.int .i64 0)).setCell ⟨w.heap.size + 1, 2, none⟩ (.slice none 0 0)).heap.size := by first | (simp; done) | (simp; omega) | (simp [World.setCell]; done) | (simp [World.setCell]; omega)
    generalize (((w2'.setCell ⟨w.heap.size + 1, 0, none⟩ (.int .i64 0)).setCell ⟨w.heap.size + 1, 1, none⟩ (.int .i64 0)).setCell ⟨w.heap.size + 1, 2, none⟩ (.slice none 0 0)) = w4' at *
    clear V_w4'_1 V_w4'_2
    have V_w4' : Below w.heap.size w w4' := V_w4'_3
    clear V_w2'
    clear V_w4'_3
    have e_r_0 : w4'.cell? ⟨w.heap.size + 1, 0, none⟩ = some (.int .i64 0) := B_r.cell 0
    have e_r_1 : w4'.cell? ⟨w.heap.size + 1, 1, none⟩ = some (.int .i64 0) := B_r.cell 1
    have e_r_2 : w4'.cell? ⟨w.heap.size + 1, 2, none⟩ = some (.slice none 0 0) := B_r.cell 2
    exact bodyPost_ret (v := .tuple #[.agg #[.int .i64 0, .int .i64 0, .slice none 0 0], .bool false]) (by simp [results, Tryd.results26, go_sem, e_r_0, e_r_1, e_r_2]) rfl ⟨_, _, _, rfl, Own.nil0 _ _ _, V_w4'⟩

  have h0 : a.status = 0 := by simpa using HB1.out
  have d1 : ((a.status != 0) : Bool) = false := by simpa using h0
  replace CM := Lib.hid (CM.out rfl h0)
  clear h0
  have e_a_0 : w2'.cell? ⟨w.heap.size, 0, none⟩ = some (.int .i64 a.P) := B_a.cell 0
  have e_a_1 : w2'.cell? ⟨w.heap.size, 1, none⟩ = some (.int .i64 a.party) := B_a.cell 1
  have e_a_2 : w2'.cell? ⟨w.heap.size, 2, none⟩ = some (.int .i64 a.input) := B_a.cell 2
  have e_a_3 : w2'.cell? ⟨w.heap.size, 3, none⟩ = some (.int .i64 a.mask) := B_a.cell 3
  have e_a_4 : w2'.cell? ⟨w.heap.size, 4, none⟩ = some (.int .i64 a.delta) := B_a.cell 4
  have e_a_5 : w2'.cell? ⟨w.heap.size, 5, none⟩ = some (.slice x_sa x_sn x_sc) := B_a.cell 5
  have e_a_6 : w2'.cell? ⟨w.heap.size, 6, none⟩ = some (.slice x_ka x_kn x_kc) := B_a.cell 6
  have e_a_7 : w2'.cell? ⟨w.heap.size, 7, none⟩ = some (.int .i64 a.step) := B_a.cell 7
  have e_a_8 : w2'.cell? ⟨w.heap.size, 8, none⟩ = some (.slice x_ha x_hn x_hc) := B_a.cell 8
  have e_a_9 : w2'.cell? ⟨w.heap.size, 9, none⟩ = some (.int .i64 a.status) := B_a.cell 9
  have e_a_10 : w2'.cell? ⟨w.heap.size, 10, none⟩ = some (.int .i64 a.out) := B_a.cell 10
  go_wp2_with fail
  clear e_a_0 e_a_1 e_a_2 e_a_3 e_a_4 e_a_5 e_a_6 e_a_7 e_a_8 e_a_9 e_a_10
  refine (CM.out _ (LH.out.below V_w2')).mono ?_
  rintro e w5' ⟨bz, cz, rfl, oz, u_w5'⟩
  replace B_a := B_a.below u_w5'
  replace B_r := B_r.below u_w5'
  have S_w5' := u_w5'.size
  have V_w5' : Below w.heap.size w w5' := V_w2'.trans (u_w5'.mono V_w2'.size)
  clear V_w2'
  clear u_w5'
  replace oz := oz.lower (b' := w.heap.size + 2) (Nat.le_trans S_w1' S_w2')

  have Q_oz := Lib.hid oz.feet
  have e_r_0 : w5'.cell? ⟨w.heap.size + 1, 0, none⟩ = some (.int .i64 0) := B_r.cell 0
  have f_r_0 : w5'.frozen? ⟨w.heap.size + 1, 0, none⟩ = false := B_r.frozen 0
  have e_r_1 : w5'.cell? ⟨w.heap.size + 1, 1, none⟩ = some (.int .i64 0) := B_r.cell 1
  have f_r_1 : w5'.frozen? ⟨w.heap.size + 1, 1, none⟩ = false := B_r.frozen 1
  have e_r_2 : w5'.cell? ⟨w.heap.size + 1, 2, none⟩ = some (.slice none 0 0) := B_r.cell 2
  have f_r_2 : w5'.frozen? ⟨w.heap.size + 1, 2, none⟩ = false := B_r.frozen 2
  go_wp2
  clear e_r_0 f_r_0 e_r_1 f_r_1 e_r_2 f_r_2
  have G_1 : Only [w.heap.size + 1] w5' (w5'.setCell ⟨w.heap.size + 1, 0, none⟩ (.int .i64 a.party)) := (Only.refl _ _).setCell ⟨w.heap.size + 1, 0, none⟩ _ (by simp)
  have V_w6'_1 : Below w.heap.size w (w5'.setCell ⟨w.heap.size + 1, 0, none⟩ (.int .i64 a.party)) := (V_w5').trans (G_1.below (V_w5').size (fun q hq => by have := (V_w5').size; simp at hq; omega))
  replace B_a := B_a.only G_1 (by first | (simp; done) | (simp; omega))
  replace B_r : Blk (w5'.setCell ⟨w.heap.size + 1, 0, none⟩ (.int .i64 a.party)) (w.heap.size + 1) 44 #[.int .i64 a.party, .int .i64 0, .slice none 0 0] := B_r.set_ 0 (.int .i64 a.party)
  replace oz := oz.only G_1 (fun q hq hq' => by have := Q_oz.out q hq; simp at hq'; omega)
  clear G_1
  have G_2 : Only [w.heap.size + 1] (w5'.setCell ⟨w.heap.size + 1, 0, none⟩ (.int .i64 a.party)) ((w5'.setCell ⟨w.heap.size + 1, 0, none⟩ (.int .i64 a.party)).setCell ⟨w.heap.size + 1, 1, none⟩ (.int .i64 a.step)) := (Only.refl _ _).setCell ⟨w.heap.size + 1, 1, none⟩ _ (by simp)
  have V_w6'_2 : Below w.heap.size w ((w5'.setCell ⟨w.heap.size + 1, 0, none⟩ (.int .i64 a.party)).setCell ⟨w.heap.size + 1, 1, none⟩ (.int .i64 a.step)) := (V_w6'_1).trans (G_2.below (V_w6'_1).size (fun q hq => by have := (V_w6'_1).size; simp at hq; omega))
  replace B_a := B_a.only G_2 (by first | (simp; done) | (simp; omega))
  replace B_r : Blk ((w5'.setCell ⟨w.heap.size + 1, 0, none⟩ (.int .i64 a.party)).setCell ⟨w.heap.size + 1, 1, none⟩ (.int .i64 a.step)) (w.heap.size + 1) 44 #[.int .i64 a.party, .int .i64 a.step, .slice none 0 0] := B_r.set_ 1 (.int .i64 a.step)
  replace oz := oz.only G_2 (fun q hq hq' => by have := Q_oz.out q hq; simp at hq'; omega)
  clear G_2
  have G_3 : Only [w.heap.size + 1] ((w5'.setCell ⟨w.heap.size + 1, 0, none⟩ (.int .i64 a.party)).setCell ⟨w.heap.size + 1, 1, none⟩ (.int .i64 a.step)) (((w5'.setCell ⟨w.heap.size + 1, 0, none⟩ (.int .i64 a.party)).setCell ⟨w.heap.size + 1, 1, none⟩ (.int .i64 a.step)).setCell ⟨w.heap.size + 1, 2, none⟩ (.slice bz L.length cz)) := (Only.refl _ _).setCell ⟨w.heap.size + 1, 2, none⟩ _ (by simp)
  have V_w6'_3 : Below w.heap.size w (((w5'.setCell ⟨w.heap.size + 1, 0, none⟩ (.int .i64 a.party)).setCell ⟨w.heap.size + 1, 1, none⟩ (.int .i64 a.step)).setCell ⟨w.heap.size + 1, 2, none⟩ (.slice bz L.length cz)) := (V_w6'_2).trans (G_3.below (V_w6'_2).size (fun q hq => by have := (V_w6'_2).size; simp at hq; omega))
  replace B_a := B_a.only G_3 (by first | (simp; done) | (simp; omega))
  replace B_r : Blk (((w5'.setCell ⟨w.heap.size + 1, 0, none⟩ (.int .i64 a.party)).setCell ⟨w.heap.size + 1, 1, none⟩ (.int .i64 a.step)).setCell ⟨w.heap.size + 1, 2, none⟩ (.slice bz L.length cz)) (w.heap.size + 1) 44 #[.int .i64 a.party, .int .i64 a.step, .slice bz L.length cz] := B_r.set_ 2 (.slice bz L.length cz)
  replace oz := oz.only G_3 (fun q hq hq' => by have := Q_oz.out q hq; simp at hq'; omega)
  clear G_3
  have S_w6' : w5'.heap.size + 0 ≤ (((w5'.setCell ⟨w.heap.size + 1, 0, none⟩ (.int .i64 a.party)).setCell ⟨w.heap.size + 1, 1, none⟩ (.int .i64 a.step)).setCell ⟨w.heap.size + 1, 2, none⟩ (.slice bz L.length cz)).heap.size := by first | (simp; done) | (simp; omega) | (simp [World.setCell]; done) | (simp [World.setCell]; omega)
  generalize (((w5'.setCell ⟨w.heap.size + 1, 0, none⟩ (.int .i64 a.party)).setCell ⟨w.heap.size + 1, 1, none⟩ (.int .i64 a.step)).setCell ⟨w.heap.size + 1, 2, none⟩ (.slice bz L.length cz)) = w6' at *
  clear V_w6'_1 V_w6'_2
  have V_w6' : Below w.heap.size w w6' := V_w6'_3
  clear V_w5'
  clear V_w6'_3
  have e_r_0 : w6'.cell? ⟨w.heap.size + 1, 0, none⟩ = some (.int .i64 a.party) := B_r.cell 0
  have e_r_1 : w6'.cell? ⟨w.heap.size + 1, 1, none⟩ = some (.int .i64 a.step) := B_r.cell 1
  have e_r_2 : w6'.cell? ⟨w.heap.size + 1, 2, none⟩ = some (.slice bz L.length cz) := B_r.cell 2
  exact bodyPost_ret (v := .tuple #[.agg #[.int .i64 a.party, .int .i64 a.step, .slice bz L.length cz], .bool true]) (by simp [results, Tryd.results26, go_sem, e_r_0, e_r_1, e_r_2]) rfl ⟨_, _, _, rfl, oz.lower (by omega), V_w6'⟩
end Go.Proofs.YtlmdckcohoddnaaDoor
