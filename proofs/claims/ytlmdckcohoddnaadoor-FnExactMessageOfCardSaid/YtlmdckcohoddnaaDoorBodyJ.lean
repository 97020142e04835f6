/- Players: own shares of terms, keys of terms. -/
import Derived.Test.YtlmdckcohoddnaaDoorBodyI
import Derived.Deep.DeepCutAuto
namespace Go.Proofs.YtlmdckcohoddnaaDoor
open Go.RowKit
theorem combine_n (p : Int) (n : Nat) (hn : n = 5) (sa : Option Addr) (sc : Nat) (S : List Int) (LV LT : Nat → Int) (w0 w1 w2 w3 w4 m : Int) (w : World) (h : Flat 2 w sa n sc S) (hV : ∀ i, i < 5 → S.getD (i * 2) 0 = LV i) (hT : ∀ i, i < 5 → S.getD (i * 2 + 1) 0 = LT i)
    (hp : 1 ≤ p) (hp2 : p ≤ 1000) (rV : ∀ i, i < 5 → 0 ≤ LV i ∧ LV i ≤ 1000) (rT : ∀ i, i < 5 → 0 ≤ LT i ∧ LT i ≤ 1000) (rW : ∀ i, i < 5 → -1000 ≤ w5 w0 w1 w2 w3 w4 i ∧ w5 w0 w1 w2 w3 w4 i ≤ 1000) (rm : -1000000 ≤ m ∧ m ≤ 1000000) :
    Calls Tryd.prog 135 #[.int .i64 p, .slice sa n sc, .agg #[.int .i64 w0, .int .i64 w1, .int .i64 w2, .int .i64 w3, .int .i64 w4], .int .i64 m] w fun e w' => e = .returned (.agg #[.int .i64 (cmb p LV w0 w1 w2 w3 w4 m), .int .i64 (cmb p LT w0 w1 w2 w3 w4 0)]) ∧ Below w.heap.size w w' := by
  subst hn; exact combine_any p sa sc S LV LT w0 w1 w2 w3 w4 m w h hV hT hp hp2 rV rT rW rm
set_option maxHeartbeats 8000000 in
set_option maxRecDepth 100000 in
theorem own_any (a : Pl) (x : PlX) (w0 w1 w2 w3 w4 m : Int) (w : World) (h : PlR w x a.shares a.keys a.heard) (hN : PlN a) (rW : ∀ i, i < 5 → -1000 ≤ w5 w0 w1 w2 w3 w4 i ∧ w5 w0 w1 w2 w3 w4 i ≤ 1000) (rm : -1000000 ≤ m ∧ m ≤ 1000000) :
    Calls Tryd.prog 110 #[.agg #[.int .i64 a.P, .int .i64 a.party, .int .i64 a.input, .int .i64 a.mask, .int .i64 a.delta, .slice x.sa x.sn x.sc, .slice x.ka x.kn x.kc, .int .i64 a.step, .slice x.ha x.hn x.hc, .int .i64 a.status, .int .i64 a.out], .agg #[.int .i64 w0, .int .i64 w1, .int .i64 w2, .int .i64 w3, .int .i64 w4, .int .i64 m]] w fun e w' => e = .returned (.agg #[.int .i64 (cmb a.P (shV a) w0 w1 w2 w3 w4 (mor a m)), .int .i64 (cmb a.P (shT a) w0 w1 w2 w3 w4 0)]) ∧ Below w.heap.size w w' := by
  have hp1 := hN.p1
  have hp2 := hN.p2
  obtain ⟨hS, _⟩ := h
  have hs5 : x.sn = 5 := by have := hS.len; have := hN.sl; omega
  have CB := fun (W : World) (mm : Int) (rmm : -1000000 ≤ mm ∧ mm ≤ 1000000) (hF : Flat 2 W x.sa x.sn x.sc a.shares) => combine_n a.P x.sn hs5 x.sa x.sc a.shares (shV a) (shT a) w0 w1 w2 w3 w4 mm W hF (fun i _ => rfl) (fun i _ => rfl) (by omega) (by omega) (fun i hi => by have := hN.sv i hi; omega) (fun i hi => by have := hN.st i hi; omega) rW rmm
  replace CB := Lib.hid CB
  clear hs5 hN rW
  unfold mor

  by_cases k0 : a.party = 1
  · rw [if_pos k0]
    have k1 : ((a.party == 1) : Bool) = true := by simpa using k0
    clear k0

    go_enter Tryd.func110, Tryd.ntmps110
    go_upto_if 7 with fail
    have V_w1'_1 : Below w.heap.size w (w.alloc (.cells #[.int .i64 a.P, .int .i64 a.party, .int .i64 a.input, .int .i64 a.mask, .int .i64 a.delta, .slice x.sa x.sn x.sc, .slice x.ka x.kn x.kc, .int .i64 a.step, .slice x.ha x.hn x.hc, .int .i64 a.status, .int .i64 a.out] 31)) := ((Below.refl w.heap.size w)).alloc (by have := ((Below.refl w.heap.size w)).size; first | exact this | (simp at *; omega)) _
    have B_a : Blk (w.alloc (.cells #[.int .i64 a.P, .int .i64 a.party, .int .i64 a.input, .int .i64 a.mask, .int .i64 a.delta, .slice x.sa x.sn x.sc, .slice x.ka x.kn x.kc, .int .i64 a.step, .slice x.ha x.hn x.hc, .int .i64 a.status, .int .i64 a.out] 31)) (w.heap.size) 31 #[.int .i64 a.P, .int .i64 a.party, .int .i64 a.input, .int .i64 a.mask, .int .i64 a.delta, .slice x.sa x.sn x.sc, .slice x.ka x.kn x.kc, .int .i64 a.step, .slice x.ha x.hn x.hc, .int .i64 a.status, .int .i64 a.out] := by exact Blk.new w 31 #[.int .i64 a.P, .int .i64 a.party, .int .i64 a.input, .int .i64 a.mask, .int .i64 a.delta, .slice x.sa x.sn x.sc, .slice x.ka x.kn x.kc, .int .i64 a.step, .slice x.ha x.hn x.hc, .int .i64 a.status, .int .i64 a.out]
    have V_w1'_2 : Below w.heap.size w ((w.alloc (.cells #[.int .i64 a.P, .int .i64 a.party, .int .i64 a.input, .int .i64 a.mask, .int .i64 a.delta, .slice x.sa x.sn x.sc, .slice x.ka x.kn x.kc, .int .i64 a.step, .slice x.ha x.hn x.hc, .int .i64 a.status, .int .i64 a.out] 31)).alloc (.cells #[.int .i64 w0, .int .i64 w1, .int .i64 w2, .int .i64 w3, .int .i64 w4, .int .i64 m] 123)) := (V_w1'_1).alloc (by have := (V_w1'_1).size; first | exact this | (simp at *; omega)) _
    replace B_a := B_a.alloc (.cells #[.int .i64 w0, .int .i64 w1, .int .i64 w2, .int .i64 w3, .int .i64 w4, .int .i64 m] 123)
    have B_t : Blk ((w.alloc (.cells #[.int .i64 a.P, .int .i64 a.party, .int .i64 a.input, .int .i64 a.mask, .int .i64 a.delta, .slice x.sa x.sn x.sc, .slice x.ka x.kn x.kc, .int .i64 a.step, .slice x.ha x.hn x.hc, .int .i64 a.status, .int .i64 a.out] 31)).alloc (.cells #[.int .i64 w0, .int .i64 w1, .int .i64 w2, .int .i64 w3, .int .i64 w4, .int .i64 m] 123)) (w.heap.size + 1) 123 #[.int .i64 w0, .int .i64 w1, .int .i64 w2, .int .i64 w3, .int .i64 w4, .int .i64 m] := by simpa [World.setCell] using (Blk.new (w.alloc (.cells #[.int .i64 a.P, .int .i64 a.party, .int .i64 a.input, .int .i64 a.mask, .int .i64 a.delta, .slice x.sa x.sn x.sc, .slice x.ka x.kn x.kc, .int .i64 a.step, .slice x.ha x.hn x.hc, .int .i64 a.status, .int .i64 a.out] 31)) 123 #[.int .i64 w0, .int .i64 w1, .int .i64 w2, .int .i64 w3, .int .i64 w4, .int .i64 m])
    have V_w1'_3 : Below w.heap.size w (((w.alloc (.cells #[.int .i64 a.P, .int .i64 a.party, .int .i64 a.input, .int .i64 a.mask, .int .i64 a.delta, .slice x.sa x.sn x.sc, .slice x.ka x.kn x.kc, .int .i64 a.step, .slice x.ha x.hn x.hc, .int .i64 a.status, .int .i64 a.out] 31)).alloc (.cells #[.int .i64 w0, .int .i64 w1, .int .i64 w2, .int .i64 w3, .int .i64 w4, .int .i64 m] 123)).alloc (.cells #[.int .i64 0, .int .i64 0] 81)) := (V_w1'_2).alloc (by have := (V_w1'_2).size; first | exact this | (simp at *; omega)) _
    replace B_a := B_a.alloc (.cells #[.int .i64 0, .int .i64 0] 81)
    replace B_t := B_t.alloc (.cells #[.int .i64 0, .int .i64 0] 81)
    have B_r : Blk (((w.alloc (.cells #[.int .i64 a.P, .int .i64 a.party, .int .i64 a.input, .int .i64 a.mask, .int .i64 a.delta, .slice x.sa x.sn x.sc, .slice x.ka x.kn x.kc, .int .i64 a.step, .slice x.ha x.hn x.hc, .int .i64 a.status, .int .i64 a.out] 31)).alloc (.cells #[.int .i64 w0, .int .i64 w1, .int .i64 w2, .int .i64 w3, .int .i64 w4, .int .i64 m] 123)).alloc (.cells #[.int .i64 0, .int .i64 0] 81)) (w.heap.size + 2) 81 #[.int .i64 0, .int .i64 0] := by simpa [World.setCell] using (Blk.new ((w.alloc (.cells #[.int .i64 a.P, .int .i64 a.party, .int .i64 a.input, .int .i64 a.mask, .int .i64 a.delta, .slice x.sa x.sn x.sc, .slice x.ka x.kn x.kc, .int .i64 a.step, .slice x.ha x.hn x.hc, .int .i64 a.status, .int .i64 a.out] 31)).alloc (.cells #[.int .i64 w0, .int .i64 w1, .int .i64 w2, .int .i64 w3, .int .i64 w4, .int .i64 m] 123)) 81 #[.int .i64 0, .int .i64 0])
    have S_w1' : w.heap.size + 3 ≤ (((w.alloc (.cells #[.int .i64 a.P, .int .i64 a.party, .int .i64 a.input, .int .i64 a.mask, .int .i64 a.delta, .slice x.sa x.sn x.sc, .slice x.ka x.kn x.kc, .int .i64 a.step, .slice x.ha x.hn x.hc, .int .i64 a.status, .int .i64 a.out] 31)).alloc (.cells #[.int .i64 w0, .int .i64 w1, .int .i64 w2, .int .i64 w3, .int .i64 w4, .int .i64 m] 123)).alloc (.cells #[.int .i64 0, .int .i64 0] 81)).heap.size := by first | (simp; done) | (simp; omega) | (simp [World.setCell]; done) | (simp [World.setCell]; omega)
    generalize (((w.alloc (.cells #[.int .i64 a.P, .int .i64 a.party, .int .i64 a.input, .int .i64 a.mask, .int .i64 a.delta, .slice x.sa x.sn x.sc, .slice x.ka x.kn x.kc, .int .i64 a.step, .slice x.ha x.hn x.hc, .int .i64 a.status, .int .i64 a.out] 31)).alloc (.cells #[.int .i64 w0, .int .i64 w1, .int .i64 w2, .int .i64 w3, .int .i64 w4, .int .i64 m] 123)).alloc (.cells #[.int .i64 0, .int .i64 0] 81)) = w1' at *
    clear V_w1'_1 V_w1'_2
    have V_w1' : Below w.heap.size w w1' := V_w1'_3
    clear V_w1'_3
    have e_a_0 : w1'.cell? ⟨w.heap.size, 0, none⟩ = some (.int .i64 a.P) := B_a.cell 0
    have e_a_1 : w1'.cell? ⟨w.heap.size, 1, none⟩ = some (.int .i64 a.party) := B_a.cell 1
    have e_a_2 : w1'.cell? ⟨w.heap.size, 2, none⟩ = some (.int .i64 a.input) := B_a.cell 2
    have e_a_3 : w1'.cell? ⟨w.heap.size, 3, none⟩ = some (.int .i64 a.mask) := B_a.cell 3
    have e_a_4 : w1'.cell? ⟨w.heap.size, 4, none⟩ = some (.int .i64 a.delta) := B_a.cell 4
    have e_a_5 : w1'.cell? ⟨w.heap.size, 5, none⟩ = some (.slice x.sa x.sn x.sc) := B_a.cell 5
    have e_a_6 : w1'.cell? ⟨w.heap.size, 6, none⟩ = some (.slice x.ka x.kn x.kc) := B_a.cell 6
    have e_a_7 : w1'.cell? ⟨w.heap.size, 7, none⟩ = some (.int .i64 a.step) := B_a.cell 7
    have e_a_8 : w1'.cell? ⟨w.heap.size, 8, none⟩ = some (.slice x.ha x.hn x.hc) := B_a.cell 8
    have e_a_9 : w1'.cell? ⟨w.heap.size, 9, none⟩ = some (.int .i64 a.status) := B_a.cell 9
    have e_a_10 : w1'.cell? ⟨w.heap.size, 10, none⟩ = some (.int .i64 a.out) := B_a.cell 10
    have e_t_0 : w1'.cell? ⟨w.heap.size + 1, 0, none⟩ = some (.int .i64 w0) := B_t.cell 0
    have f_t_0 : w1'.frozen? ⟨w.heap.size + 1, 0, none⟩ = false := B_t.frozen 0
    have e_t_1 : w1'.cell? ⟨w.heap.size + 1, 1, none⟩ = some (.int .i64 w1) := B_t.cell 1
    have f_t_1 : w1'.frozen? ⟨w.heap.size + 1, 1, none⟩ = false := B_t.frozen 1
    have e_t_2 : w1'.cell? ⟨w.heap.size + 1, 2, none⟩ = some (.int .i64 w2) := B_t.cell 2
    have f_t_2 : w1'.frozen? ⟨w.heap.size + 1, 2, none⟩ = false := B_t.frozen 2
    have e_t_3 : w1'.cell? ⟨w.heap.size + 1, 3, none⟩ = some (.int .i64 w3) := B_t.cell 3
    have f_t_3 : w1'.frozen? ⟨w.heap.size + 1, 3, none⟩ = false := B_t.frozen 3
    have e_t_4 : w1'.cell? ⟨w.heap.size + 1, 4, none⟩ = some (.int .i64 w4) := B_t.cell 4
    have f_t_4 : w1'.frozen? ⟨w.heap.size + 1, 4, none⟩ = false := B_t.frozen 4
    have e_t_5 : w1'.cell? ⟨w.heap.size + 1, 5, none⟩ = some (.int .i64 m) := B_t.cell 5
    have f_t_5 : w1'.frozen? ⟨w.heap.size + 1, 5, none⟩ = false := B_t.frozen 5
    go_wp2_with fail
    clear e_a_0 e_a_1 e_a_2 e_a_3 e_a_4 e_a_5 e_a_6 e_a_7 e_a_8 e_a_9 e_a_10 e_t_0 f_t_0 e_t_1 f_t_1 e_t_2 f_t_2 e_t_3 f_t_3 e_t_4 f_t_4 e_t_5 f_t_5
    have G_1 : Only [w.heap.size + 1] w1' (w1'.setCell ⟨w.heap.size + 1, 5, none⟩ (.int .i64 0)) := (Only.refl _ _).setCell ⟨w.heap.size + 1, 5, none⟩ _ (by simp)
    have V_w2'_1 : Below w.heap.size w (w1'.setCell ⟨w.heap.size + 1, 5, none⟩ (.int .i64 0)) := (V_w1').trans (G_1.below (V_w1').size (fun q hq => by have := (V_w1').size; simp at hq; omega))
    replace B_a := B_a.only G_1 (by first | (simp; done) | (simp; omega))
    replace B_t : Blk (w1'.setCell ⟨w.heap.size + 1, 5, none⟩ (.int .i64 0)) (w.heap.size + 1) 123 #[.int .i64 w0, .int .i64 w1, .int .i64 w2, .int .i64 w3, .int .i64 w4, .int .i64 0] := B_t.set_ 5 (.int .i64 0)
    replace B_r := B_r.only G_1 (by first | (simp; done) | (simp; omega))
    clear G_1
    have S_w2' : w1'.heap.size + 0 ≤ (w1'.setCell ⟨w.heap.size + 1, 5, none⟩ (.int .i64 0)).heap.size := by first | (simp; done) | (simp; omega) | (simp [World.setCell]; done) | (simp [World.setCell]; omega)
    generalize (w1'.setCell ⟨w.heap.size + 1, 5, none⟩ (.int .i64 0)) = w2' at *
    have V_w2' : Below w.heap.size w w2' := V_w2'_1
    clear V_w1'
    clear V_w2'_1
    refine (CB.out _ 0 ⟨by omega, by omega⟩ (hS.below V_w2')).mono ?_
    rintro e w3' ⟨rfl, u_w3'⟩
    replace B_a := B_a.below u_w3'
    replace B_t := B_t.below u_w3'
    replace B_r := B_r.below u_w3'
    have S_w3' := u_w3'.size
    have V_w3' : Below w.heap.size w w3' := V_w2'.trans (u_w3'.mono V_w2'.size)
    clear V_w2'
    clear u_w3'
    have e_r_0 : w3'.cell? ⟨w.heap.size + 2, 0, none⟩ = some (.int .i64 0) := B_r.cell 0
    have f_r_0 : w3'.frozen? ⟨w.heap.size + 2, 0, none⟩ = false := B_r.frozen 0
    have e_r_1 : w3'.cell? ⟨w.heap.size + 2, 1, none⟩ = some (.int .i64 0) := B_r.cell 1
    have f_r_1 : w3'.frozen? ⟨w.heap.size + 2, 1, none⟩ = false := B_r.frozen 1
    go_wp2
    have V9 := (V_w3'.setCell (p := ⟨w.heap.size + 2, 0, none⟩) (by simp) (.int .i64 (cmb a.P (shV a) w0 w1 w2 w3 w4 0))).setCell (p := ⟨w.heap.size + 2, 1, none⟩) (by simp) (.int .i64 (cmb a.P (shT a) w0 w1 w2 w3 w4 0))
    exact bodyPost_ret (v := .agg #[.int .i64 (cmb a.P (shV a) w0 w1 w2 w3 w4 0), .int .i64 (cmb a.P (shT a) w0 w1 w2 w3 w4 0)]) (by simp [results, Tryd.results110, go_sem, e_r_0, e_r_1]) rfl ⟨rfl, V9⟩

  · rw [if_neg k0]
    have k1 : ((a.party == 1) : Bool) = false := by simpa using k0
    clear k0

    go_enter Tryd.func110, Tryd.ntmps110
    go_wp2_with fail
    have V_w4'_1 : Below w.heap.size w (w.alloc (.cells #[.int .i64 a.P, .int .i64 a.party, .int .i64 a.input, .int .i64 a.mask, .int .i64 a.delta, .slice x.sa x.sn x.sc, .slice x.ka x.kn x.kc, .int .i64 a.step, .slice x.ha x.hn x.hc, .int .i64 a.status, .int .i64 a.out] 31)) := ((Below.refl w.heap.size w)).alloc (by have := ((Below.refl w.heap.size w)).size; first | exact this | (simp at *; omega)) _
    have B_a : Blk (w.alloc (.cells #[.int .i64 a.P, .int .i64 a.party, .int .i64 a.input, .int .i64 a.mask, .int .i64 a.delta, .slice x.sa x.sn x.sc, .slice x.ka x.kn x.kc, .int .i64 a.step, .slice x.ha x.hn x.hc, .int .i64 a.status, .int .i64 a.out] 31)) (w.heap.size) 31 #[.int .i64 a.P, .int .i64 a.party, .int .i64 a.input, .int .i64 a.mask, .int .i64 a.delta, .slice x.sa x.sn x.sc, .slice x.ka x.kn x.kc, .int .i64 a.step, .slice x.ha x.hn x.hc, .int .i64 a.status, .int .i64 a.out] := by exact Blk.new w 31 #[.int .i64 a.P, .int .i64 a.party, .int .i64 a.input, .int .i64 a.mask, .int .i64 a.delta, .slice x.sa x.sn x.sc, .slice x.ka x.kn x.kc, .int .i64 a.step, .slice x.ha x.hn x.hc, .int .i64 a.status, .int .i64 a.out]
    have V_w4'_2 : Below w.heap.size w ((w.alloc (.cells #[.int .i64 a.P, .int .i64 a.party, .int .i64 a.input, .int .i64 a.mask, .int .i64 a.delta, .slice x.sa x.sn x.sc, .slice x.ka x.kn x.kc, .int .i64 a.step, .slice x.ha x.hn x.hc, .int .i64 a.status, .int .i64 a.out] 31)).alloc (.cells #[.int .i64 w0, .int .i64 w1, .int .i64 w2, .int .i64 w3, .int .i64 w4, .int .i64 m] 123)) := (V_w4'_1).alloc (by have := (V_w4'_1).size; first | exact this | (simp at *; omega)) _
    replace B_a := B_a.alloc (.cells #[.int .i64 w0, .int .i64 w1, .int .i64 w2, .int .i64 w3, .int .i64 w4, .int .i64 m] 123)
    have B_t : Blk ((w.alloc (.cells #[.int .i64 a.P, .int .i64 a.party, .int .i64 a.input, .int .i64 a.mask, .int .i64 a.delta, .slice x.sa x.sn x.sc, .slice x.ka x.kn x.kc, .int .i64 a.step, .slice x.ha x.hn x.hc, .int .i64 a.status, .int .i64 a.out] 31)).alloc (.cells #[.int .i64 w0, .int .i64 w1, .int .i64 w2, .int .i64 w3, .int .i64 w4, .int .i64 m] 123)) (w.heap.size + 1) 123 #[.int .i64 w0, .int .i64 w1, .int .i64 w2, .int .i64 w3, .int .i64 w4, .int .i64 m] := by simpa [World.setCell] using (Blk.new (w.alloc (.cells #[.int .i64 a.P, .int .i64 a.party, .int .i64 a.input, .int .i64 a.mask, .int .i64 a.delta, .slice x.sa x.sn x.sc, .slice x.ka x.kn x.kc, .int .i64 a.step, .slice x.ha x.hn x.hc, .int .i64 a.status, .int .i64 a.out] 31)) 123 #[.int .i64 w0, .int .i64 w1, .int .i64 w2, .int .i64 w3, .int .i64 w4, .int .i64 m])
    have V_w4'_3 : Below w.heap.size w (((w.alloc (.cells #[.int .i64 a.P, .int .i64 a.party, .int .i64 a.input, .int .i64 a.mask, .int .i64 a.delta, .slice x.sa x.sn x.sc, .slice x.ka x.kn x.kc, .int .i64 a.step, .slice x.ha x.hn x.hc, .int .i64 a.status, .int .i64 a.out] 31)).alloc (.cells #[.int .i64 w0, .int .i64 w1, .int .i64 w2, .int .i64 w3, .int .i64 w4, .int .i64 m] 123)).alloc (.cells #[.int .i64 0, .int .i64 0] 81)) := (V_w4'_2).alloc (by have := (V_w4'_2).size; first | exact this | (simp at *; omega)) _
    replace B_a := B_a.alloc (.cells #[.int .i64 0, .int .i64 0] 81)
    replace B_t := B_t.alloc (.cells #[.int .i64 0, .int .i64 0] 81)
    have B_r : Blk (((w.alloc (.cells #[.int .i64 a.P, .int .i64 a.party, .int .i64 a.input, .int .i64 a.mask, .int .i64 a.delta, .slice x.sa x.sn x.sc, .slice x.ka x.kn x.kc, .int .i64 a.step, .slice x.ha x.hn x.hc, .int .i64 a.status, .int .i64 a.out] 31)).alloc (.cells #[.int .i64 w0, .int .i64 w1, .int .i64 w2, .int .i64 w3, .int .i64 w4, .int .i64 m] 123)).alloc (.cells #[.int .i64 0, .int .i64 0] 81)) (w.heap.size + 2) 81 #[.int .i64 0, .int .i64 0] := by simpa [World.setCell] using (Blk.new ((w.alloc (.cells #[.int .i64 a.P, .int .i64 a.party, .int .i64 a.input, .int .i64 a.mask, .int .i64 a.delta, .slice x.sa x.sn x.sc, .slice x.ka x.kn x.kc, .int .i64 a.step, .slice x.ha x.hn x.hc, .int .i64 a.status, .int .i64 a.out] 31)).alloc (.cells #[.int .i64 w0, .int .i64 w1, .int .i64 w2, .int .i64 w3, .int .i64 w4, .int .i64 m] 123)) 81 #[.int .i64 0, .int .i64 0])
    have S_w4' : w.heap.size + 3 ≤ (((w.alloc (.cells #[.int .i64 a.P, .int .i64 a.party, .int .i64 a.input, .int .i64 a.mask, .int .i64 a.delta, .slice x.sa x.sn x.sc, .slice x.ka x.kn x.kc, .int .i64 a.step, .slice x.ha x.hn x.hc, .int .i64 a.status, .int .i64 a.out] 31)).alloc (.cells #[.int .i64 w0, .int .i64 w1, .int .i64 w2, .int .i64 w3, .int .i64 w4, .int .i64 m] 123)).alloc (.cells #[.int .i64 0, .int .i64 0] 81)).heap.size := by first | (simp; done) | (simp; omega) | (simp [World.setCell]; done) | (simp [World.setCell]; omega)
    generalize (((w.alloc (.cells #[.int .i64 a.P, .int .i64 a.party, .int .i64 a.input, .int .i64 a.mask, .int .i64 a.delta, .slice x.sa x.sn x.sc, .slice x.ka x.kn x.kc, .int .i64 a.step, .slice x.ha x.hn x.hc, .int .i64 a.status, .int .i64 a.out] 31)).alloc (.cells #[.int .i64 w0, .int .i64 w1, .int .i64 w2, .int .i64 w3, .int .i64 w4, .int .i64 m] 123)).alloc (.cells #[.int .i64 0, .int .i64 0] 81)) = w4' at *
    clear V_w4'_1 V_w4'_2
    have V_w4' : Below w.heap.size w w4' := V_w4'_3
    clear V_w4'_3
    refine (CB.out _ m ⟨by omega, by omega⟩ (hS.below V_w4')).mono ?_
    rintro e w5' ⟨rfl, u_w5'⟩
    replace B_a := B_a.below u_w5'
    replace B_t := B_t.below u_w5'
    replace B_r := B_r.below u_w5'
    have S_w5' := u_w5'.size
    have V_w5' : Below w.heap.size w w5' := V_w4'.trans (u_w5'.mono V_w4'.size)
    clear V_w4'
    clear u_w5'
    have e_r_0 : w5'.cell? ⟨w.heap.size + 2, 0, none⟩ = some (.int .i64 0) := B_r.cell 0
    have f_r_0 : w5'.frozen? ⟨w.heap.size + 2, 0, none⟩ = false := B_r.frozen 0
    have e_r_1 : w5'.cell? ⟨w.heap.size + 2, 1, none⟩ = some (.int .i64 0) := B_r.cell 1
    have f_r_1 : w5'.frozen? ⟨w.heap.size + 2, 1, none⟩ = false := B_r.frozen 1
    go_wp2
    have V9 := (V_w5'.setCell (p := ⟨w.heap.size + 2, 0, none⟩) (by simp) (.int .i64 (cmb a.P (shV a) w0 w1 w2 w3 w4 m))).setCell (p := ⟨w.heap.size + 2, 1, none⟩) (by simp) (.int .i64 (cmb a.P (shT a) w0 w1 w2 w3 w4 0))
    exact bodyPost_ret (v := .agg #[.int .i64 (cmb a.P (shV a) w0 w1 w2 w3 w4 m), .int .i64 (cmb a.P (shT a) w0 w1 w2 w3 w4 0)]) (by simp [results, Tryd.results110, go_sem, e_r_0, e_r_1]) rfl ⟨rfl, V9⟩

end Go.Proofs.YtlmdckcohoddnaaDoor
