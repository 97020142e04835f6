/- Lemmas and walks that the claim's proof rests on, part 8. -/
import Derived.Test.YtlmdckcohoddnaaDoorK6
import Derived.Test.YtlmdckcohoddnaaDoorK7
namespace Go.Proofs.YtlmdckcohoddnaaDoor
open Go.RowKit
set_option maxHeartbeats 16000000 in
set_option maxRecDepth 100000 in
theorem take_no (a : Pl) (x : PlX) (fr st : Int) (b : Option Addr) (n c : Nat) (body : List Int) (w : World) (h : PlR w x a.shares a.keys a.heard) (hM : Ints w b n c body) (hT : Tbl w) (hN : PlN a) (hs : a.step ≤ 2) (hacc : accB a fr st body = false) :
    Calls Tryd.prog 92 #[.agg #[.int .i64 a.P, .int .i64 a.party, .int .i64 a.input, .int .i64 a.mask, .int .i64 a.delta, .slice x.sa x.sn x.sc, .slice x.ka x.kn x.kc, .int .i64 a.step, .slice x.ha x.hn x.hc, .int .i64 a.status, .int .i64 a.out], .agg #[.int .i64 fr, .int .i64 st, .slice b n c]] w fun e w' => ∃ y F, e = .returned (.agg #[.int .i64 a.P, .int .i64 a.party, .int .i64 a.input, .int .i64 a.mask, .int .i64 a.delta, .slice y.sa y.sn y.sc, .slice y.ka y.kn y.kc, .int .i64 a.step, .slice y.ha y.hn y.hc, .int .i64 2, .int .i64 a.out]) ∧ PlO w' w.heap.size y a.shares a.keys (a.heard) F ∧ Below w.heap.size w w' := by
  have CA := Lib.hid (fun (W : World) (h2 : PlR W x a.shares a.keys a.heard) (h3 : Ints W b n c body) (h4 : Tbl W) => accepts_any a x fr st b n c body W h2 h3 h4 hN hs)
  rw [hacc] at CA
  have CP := Lib.hid (fun (W : World) (h2 : PlR W x a.shares a.keys a.heard) => copyPlayer_any a x W h2 hN)
  have LH := Lib.hid h
  have LM := Lib.hid hM
  have LX := Lib.hid hT
  clear h hM hT hs hN hacc
  go_enter Tryd.func92, Tryd.ntmps92
  go_wp2_with fail
  have V_w1'_1 : Below w.heap.size w (w.alloc (.cells #[.int .i64 a.P, .int .i64 a.party, .int .i64 a.input, .int .i64 a.mask, .int .i64 a.delta, .slice x.sa x.sn x.sc, .slice x.ka x.kn x.kc, .int .i64 a.step, .slice x.ha x.hn x.hc, .int .i64 a.status, .int .i64 a.out] 31)) := ((Below.refl w.heap.size w)).alloc (by have := ((Below.refl w.heap.size w)).size; first | exact this | (simp at *; omega)) _
  have B_a : Blk (w.alloc (.cells #[.int .i64 a.P, .int .i64 a.party, .int .i64 a.input, .int .i64 a.mask, .int .i64 a.delta, .slice x.sa x.sn x.sc, .slice x.ka x.kn x.kc, .int .i64 a.step, .slice x.ha x.hn x.hc, .int .i64 a.status, .int .i64 a.out] 31)) (w.heap.size) 31 #[.int .i64 a.P, .int .i64 a.party, .int .i64 a.input, .int .i64 a.mask, .int .i64 a.delta, .slice x.sa x.sn x.sc, .slice x.ka x.kn x.kc, .int .i64 a.step, .slice x.ha x.hn x.hc, .int .i64 a.status, .int .i64 a.out] := by exact Blk.new w 31 #[.int .i64 a.P, .int .i64 a.party, .int .i64 a.input, .int .i64 a.mask, .int .i64 a.delta, .slice x.sa x.sn x.sc, .slice x.ka x.kn x.kc, .int .i64 a.step, .slice x.ha x.hn x.hc, .int .i64 a.status, .int .i64 a.out]
  have V_w1'_2 : Below w.heap.size w ((w.alloc (.cells #[.int .i64 a.P, .int .i64 a.party, .int .i64 a.input, .int .i64 a.mask, .int .i64 a.delta, .slice x.sa x.sn x.sc, .slice x.ka x.kn x.kc, .int .i64 a.step, .slice x.ha x.hn x.hc, .int .i64 a.status, .int .i64 a.out] 31)).alloc (.cells #[.int .i64 fr, .int .i64 st, .slice b n c] 44)) := (V_w1'_1).alloc (by have := (V_w1'_1).size; first | exact this | (simp at *; omega)) _
  replace B_a := B_a.alloc (.cells #[.int .i64 fr, .int .i64 st, .slice b n c] 44)
  have B_m : Blk ((w.alloc (.cells #[.int .i64 a.P, .int .i64 a.party, .int .i64 a.input, .int .i64 a.mask, .int .i64 a.delta, .slice x.sa x.sn x.sc, .slice x.ka x.kn x.kc, .int .i64 a.step, .slice x.ha x.hn x.hc, .int .i64 a.status, .int .i64 a.out] 31)).alloc (.cells #[.int .i64 fr, .int .i64 st, .slice b n c] 44)) (w.heap.size + 1) 44 #[.int .i64 fr, .int .i64 st, .slice b n c] := by simpa [World.setCell] using (Blk.new (w.alloc (.cells #[.int .i64 a.P, .int .i64 a.party, .int .i64 a.input, .int .i64 a.mask, .int .i64 a.delta, .slice x.sa x.sn x.sc, .slice x.ka x.kn x.kc, .int .i64 a.step, .slice x.ha x.hn x.hc, .int .i64 a.status, .int .i64 a.out] 31)) 44 #[.int .i64 fr, .int .i64 st, .slice b n c])
  have V_w1'_3 : Below w.heap.size w (((w.alloc (.cells #[.int .i64 a.P, .int .i64 a.party, .int .i64 a.input, .int .i64 a.mask, .int .i64 a.delta, .slice x.sa x.sn x.sc, .slice x.ka x.kn x.kc, .int .i64 a.step, .slice x.ha x.hn x.hc, .int .i64 a.status, .int .i64 a.out] 31)).alloc (.cells #[.int .i64 fr, .int .i64 st, .slice b n c] 44)).alloc (.cells #[.int .i64 0, .int .i64 0, .int .i64 0, .int .i64 0, .int .i64 0, .slice none 0 0, .slice none 0 0, .int .i64 0, .slice none 0 0, .int .i64 0, .int .i64 0] 31)) := (V_w1'_2).alloc (by have := (V_w1'_2).size; first | exact this | (simp at *; omega)) _
  replace B_a := B_a.alloc (.cells #[.int .i64 0, .int .i64 0, .int .i64 0, .int .i64 0, .int .i64 0, .slice none 0 0, .slice none 0 0, .int .i64 0, .slice none 0 0, .int .i64 0, .int .i64 0] 31)
  replace B_m := B_m.alloc (.cells #[.int .i64 0, .int .i64 0, .int .i64 0, .int .i64 0, .int .i64 0, .slice none 0 0, .slice none 0 0, .int .i64 0, .slice none 0 0, .int .i64 0, .int .i64 0] 31)
  have B_r : Blk (((w.alloc (.cells #[.int .i64 a.P, .int .i64 a.party, .int .i64 a.input, .int .i64 a.mask, .int .i64 a.delta, .slice x.sa x.sn x.sc, .slice x.ka x.kn x.kc, .int .i64 a.step, .slice x.ha x.hn x.hc, .int .i64 a.status, .int .i64 a.out] 31)).alloc (.cells #[.int .i64 fr, .int .i64 st, .slice b n c] 44)).alloc (.cells #[.int .i64 0, .int .i64 0, .int .i64 0, .int .i64 0, .int .i64 0, .slice none 0 0, .slice none 0 0, .int .i64 0, .slice none 0 0, .int .i64 0, .int .i64 0] 31)) (w.heap.size + 2) 31 #[.int .i64 0, .int .i64 0, .int .i64 0, .int .i64 0, .int .i64 0, .slice none 0 0, .slice none 0 0, .int .i64 0, .slice none 0 0, .int .i64 0, .int .i64 0] := by simpa [World.setCell] using (Blk.new ((w.alloc (.cells #[.int .i64 a.P, .int .i64 a.party, .int .i64 a.input, .int .i64 a.mask, .int .i64 a.delta, .slice x.sa x.sn x.sc, .slice x.ka x.kn x.kc, .int .i64 a.step, .slice x.ha x.hn x.hc, .int .i64 a.status, .int .i64 a.out] 31)).alloc (.cells #[.int .i64 fr, .int .i64 st, .slice b n c] 44)) 31 #[.int .i64 0, .int .i64 0, .int .i64 0, .int .i64 0, .int .i64 0, .slice none 0 0, .slice none 0 0, .int .i64 0, .slice none 0 0, .int .i64 0, .int .i64 0])
  have S_w1' : w.heap.size + 3 ≤ (((w.alloc (.cells #[.int .i64 a.P, .int .i64 a.party, .int .i64 a.input, .int .i64 a.mask, .int .i64 a.delta, .slice x.sa x.sn x.sc, .slice x.ka x.kn x.kc, .int .i64 a.step, .slice x.ha x.hn x.hc, .int .i64 a.status, .int .i64 a.out] 31)).alloc (.cells #[.int .i64 fr, .int .i64 st, .slice b n c] 44)).alloc (.cells #[.int .i64 0, .int .i64 0, .int .i64 0, .int .i64 0, .int .i64 0, .slice none 0 0, .slice none 0 0, .int .i64 0, .slice none 0 0, .int .i64 0, .int .i64 0] 31)).heap.size := by first | (simp; done) | (simp; omega) | (simp [World.setCell]; done) | (simp [World.setCell]; omega)
  generalize (((w.alloc (.cells #[.int .i64 a.P, .int .i64 a.party, .int .i64 a.input, .int .i64 a.mask, .int .i64 a.delta, .slice x.sa x.sn x.sc, .slice x.ka x.kn x.kc, .int .i64 a.step, .slice x.ha x.hn x.hc, .int .i64 a.status, .int .i64 a.out] 31)).alloc (.cells #[.int .i64 fr, .int .i64 st, .slice b n c] 44)).alloc (.cells #[.int .i64 0, .int .i64 0, .int .i64 0, .int .i64 0, .int .i64 0, .slice none 0 0, .slice none 0 0, .int .i64 0, .slice none 0 0, .int .i64 0, .int .i64 0] 31)) = w1' at *
  clear V_w1'_1 V_w1'_2
  have V_w1' : Below w.heap.size w w1' := V_w1'_3
  clear V_w1'_3
  refine (CP.out _ (LH.out.below V_w1')).mono ?_
  rintro e w2' ⟨y, F, rfl, o, u_w2'⟩
  replace B_a := B_a.below u_w2'
  replace B_m := B_m.below u_w2'
  replace B_r := B_r.below u_w2'
  have S_w2' := u_w2'.size
  have V_w2' : Below w.heap.size w w2' := V_w1'.trans (u_w2'.mono V_w1'.size)
  clear V_w1'
  clear u_w2'
  replace o := o.lower (b' := w.heap.size + 3) S_w1'
  have Q_o := Lib.hid o.feet
  go_upto_region 2 with fail
  have V_w3'_1 : Below w.heap.size w (w2'.alloc (.cells #[.int .i64 a.P, .int .i64 a.party, .int .i64 a.input, .int .i64 a.mask, .int .i64 a.delta, .slice y.sa y.sn y.sc, .slice y.ka y.kn y.kc, .int .i64 a.step, .slice y.ha y.hn y.hc, .int .i64 a.status, .int .i64 a.out] 31)) := (V_w2').alloc (by have := (V_w2').size; first | exact this | (simp at *; omega)) _
  replace B_a := B_a.alloc (.cells #[.int .i64 a.P, .int .i64 a.party, .int .i64 a.input, .int .i64 a.mask, .int .i64 a.delta, .slice y.sa y.sn y.sc, .slice y.ka y.kn y.kc, .int .i64 a.step, .slice y.ha y.hn y.hc, .int .i64 a.status, .int .i64 a.out] 31)
  replace B_m := B_m.alloc (.cells #[.int .i64 a.P, .int .i64 a.party, .int .i64 a.input, .int .i64 a.mask, .int .i64 a.delta, .slice y.sa y.sn y.sc, .slice y.ka y.kn y.kc, .int .i64 a.step, .slice y.ha y.hn y.hc, .int .i64 a.status, .int .i64 a.out] 31)
  replace B_r := B_r.alloc (.cells #[.int .i64 a.P, .int .i64 a.party, .int .i64 a.input, .int .i64 a.mask, .int .i64 a.delta, .slice y.sa y.sn y.sc, .slice y.ka y.kn y.kc, .int .i64 a.step, .slice y.ha y.hn y.hc, .int .i64 a.status, .int .i64 a.out] 31)
  replace o := o.alloc (.cells #[.int .i64 a.P, .int .i64 a.party, .int .i64 a.input, .int .i64 a.mask, .int .i64 a.delta, .slice y.sa y.sn y.sc, .slice y.ka y.kn y.kc, .int .i64 a.step, .slice y.ha y.hn y.hc, .int .i64 a.status, .int .i64 a.out] 31)
  have B_b : Blk (w2'.alloc (.cells #[.int .i64 a.P, .int .i64 a.party, .int .i64 a.input, .int .i64 a.mask, .int .i64 a.delta, .slice y.sa y.sn y.sc, .slice y.ka y.kn y.kc, .int .i64 a.step, .slice y.ha y.hn y.hc, .int .i64 a.status, .int .i64 a.out] 31)) (w2'.heap.size) 31 #[.int .i64 a.P, .int .i64 a.party, .int .i64 a.input, .int .i64 a.mask, .int .i64 a.delta, .slice y.sa y.sn y.sc, .slice y.ka y.kn y.kc, .int .i64 a.step, .slice y.ha y.hn y.hc, .int .i64 a.status, .int .i64 a.out] := by exact Blk.new w2' 31 #[.int .i64 a.P, .int .i64 a.party, .int .i64 a.input, .int .i64 a.mask, .int .i64 a.delta, .slice y.sa y.sn y.sc, .slice y.ka y.kn y.kc, .int .i64 a.step, .slice y.ha y.hn y.hc, .int .i64 a.status, .int .i64 a.out]
  have S_w3' : w2'.heap.size + 1 ≤ (w2'.alloc (.cells #[.int .i64 a.P, .int .i64 a.party, .int .i64 a.input, .int .i64 a.mask, .int .i64 a.delta, .slice y.sa y.sn y.sc, .slice y.ka y.kn y.kc, .int .i64 a.step, .slice y.ha y.hn y.hc, .int .i64 a.status, .int .i64 a.out] 31)).heap.size := by first | (simp; done) | (simp; omega) | (simp [World.setCell]; done) | (simp [World.setCell]; omega)
  generalize (w2'.alloc (.cells #[.int .i64 a.P, .int .i64 a.party, .int .i64 a.input, .int .i64 a.mask, .int .i64 a.delta, .slice y.sa y.sn y.sc, .slice y.ka y.kn y.kc, .int .i64 a.step, .slice y.ha y.hn y.hc, .int .i64 a.status, .int .i64 a.out] 31)) = w3' at *
  have V_w3' : Below w.heap.size w w3' := V_w3'_1
  clear V_w2'
  clear V_w3'_1
  have e_a_0 : w3'.cell? ⟨w.heap.size, 0, none⟩ = some (.int .i64 a.P) := B_a.cell 0
  have e_a_1 : w3'.cell? ⟨w.heap.size, 1, none⟩ = some (.int .i64 a.party) := B_a.cell 1
  have e_a_2 : w3'.cell? ⟨w.heap.size, 2, none⟩ = some (.int .i64 a.input) := B_a.cell 2
  have e_a_3 : w3'.cell? ⟨w.heap.size, 3, none⟩ = some (.int .i64 a.mask) := B_a.cell 3
  have e_a_4 : w3'.cell? ⟨w.heap.size, 4, none⟩ = some (.int .i64 a.delta) := B_a.cell 4
  have e_a_5 : w3'.cell? ⟨w.heap.size, 5, none⟩ = some (.slice x.sa x.sn x.sc) := B_a.cell 5
  have e_a_6 : w3'.cell? ⟨w.heap.size, 6, none⟩ = some (.slice x.ka x.kn x.kc) := B_a.cell 6
  have e_a_7 : w3'.cell? ⟨w.heap.size, 7, none⟩ = some (.int .i64 a.step) := B_a.cell 7
  have e_a_8 : w3'.cell? ⟨w.heap.size, 8, none⟩ = some (.slice x.ha x.hn x.hc) := B_a.cell 8
  have e_a_9 : w3'.cell? ⟨w.heap.size, 9, none⟩ = some (.int .i64 a.status) := B_a.cell 9
  have e_a_10 : w3'.cell? ⟨w.heap.size, 10, none⟩ = some (.int .i64 a.out) := B_a.cell 10
  have e_m_0 : w3'.cell? ⟨w.heap.size + 1, 0, none⟩ = some (.int .i64 fr) := B_m.cell 0
  have e_m_1 : w3'.cell? ⟨w.heap.size + 1, 1, none⟩ = some (.int .i64 st) := B_m.cell 1
  have e_m_2 : w3'.cell? ⟨w.heap.size + 1, 2, none⟩ = some (.slice b n c) := B_m.cell 2
  go_wp2_with fail
  clear e_a_0 e_a_1 e_a_2 e_a_3 e_a_4 e_a_5 e_a_6 e_a_7 e_a_8 e_a_9 e_a_10 e_m_0 e_m_1 e_m_2
  refine (CA.out _ (LH.out.below V_w3') (LM.out.below V_w3') (LX.out.below V_w3')).mono ?_
  rintro e w4' ⟨rfl, u_w4'⟩
  replace B_a := B_a.below u_w4'
  replace B_m := B_m.below u_w4'
  replace B_r := B_r.below u_w4'
  replace B_b := B_b.below u_w4'
  replace o := o.below u_w4'
  have S_w4' := u_w4'.size
  have V_w4' : Below w.heap.size w w4' := V_w3'.trans (u_w4'.mono V_w3'.size)
  clear V_w3'
  clear u_w4'
  have e_b_0 : w4'.cell? ⟨w2'.heap.size, 0, none⟩ = some (.int .i64 a.P) := B_b.cell 0
  have f_b_0 : w4'.frozen? ⟨w2'.heap.size, 0, none⟩ = false := B_b.frozen 0
  have e_b_1 : w4'.cell? ⟨w2'.heap.size, 1, none⟩ = some (.int .i64 a.party) := B_b.cell 1
  have f_b_1 : w4'.frozen? ⟨w2'.heap.size, 1, none⟩ = false := B_b.frozen 1
  have e_b_2 : w4'.cell? ⟨w2'.heap.size, 2, none⟩ = some (.int .i64 a.input) := B_b.cell 2
  have f_b_2 : w4'.frozen? ⟨w2'.heap.size, 2, none⟩ = false := B_b.frozen 2
  have e_b_3 : w4'.cell? ⟨w2'.heap.size, 3, none⟩ = some (.int .i64 a.mask) := B_b.cell 3
  have f_b_3 : w4'.frozen? ⟨w2'.heap.size, 3, none⟩ = false := B_b.frozen 3
  have e_b_4 : w4'.cell? ⟨w2'.heap.size, 4, none⟩ = some (.int .i64 a.delta) := B_b.cell 4
  have f_b_4 : w4'.frozen? ⟨w2'.heap.size, 4, none⟩ = false := B_b.frozen 4
  have e_b_5 : w4'.cell? ⟨w2'.heap.size, 5, none⟩ = some (.slice y.sa y.sn y.sc) := B_b.cell 5
  have f_b_5 : w4'.frozen? ⟨w2'.heap.size, 5, none⟩ = false := B_b.frozen 5
  have e_b_6 : w4'.cell? ⟨w2'.heap.size, 6, none⟩ = some (.slice y.ka y.kn y.kc) := B_b.cell 6
  have f_b_6 : w4'.frozen? ⟨w2'.heap.size, 6, none⟩ = false := B_b.frozen 6
  have e_b_7 : w4'.cell? ⟨w2'.heap.size, 7, none⟩ = some (.int .i64 a.step) := B_b.cell 7
  have f_b_7 : w4'.frozen? ⟨w2'.heap.size, 7, none⟩ = false := B_b.frozen 7
  have e_b_8 : w4'.cell? ⟨w2'.heap.size, 8, none⟩ = some (.slice y.ha y.hn y.hc) := B_b.cell 8
  have f_b_8 : w4'.frozen? ⟨w2'.heap.size, 8, none⟩ = false := B_b.frozen 8
  have e_b_9 : w4'.cell? ⟨w2'.heap.size, 9, none⟩ = some (.int .i64 a.status) := B_b.cell 9
  have f_b_9 : w4'.frozen? ⟨w2'.heap.size, 9, none⟩ = false := B_b.frozen 9
  have e_b_10 : w4'.cell? ⟨w2'.heap.size, 10, none⟩ = some (.int .i64 a.out) := B_b.cell 10
  have f_b_10 : w4'.frozen? ⟨w2'.heap.size, 10, none⟩ = false := B_b.frozen 10
  have e_r_0 : w4'.cell? ⟨w.heap.size + 2, 0, none⟩ = some (.int .i64 0) := B_r.cell 0
  have f_r_0 : w4'.frozen? ⟨w.heap.size + 2, 0, none⟩ = false := B_r.frozen 0
  have e_r_1 : w4'.cell? ⟨w.heap.size + 2, 1, none⟩ = some (.int .i64 0) := B_r.cell 1
  have f_r_1 : w4'.frozen? ⟨w.heap.size + 2, 1, none⟩ = false := B_r.frozen 1
  have e_r_2 : w4'.cell? ⟨w.heap.size + 2, 2, none⟩ = some (.int .i64 0) := B_r.cell 2
  have f_r_2 : w4'.frozen? ⟨w.heap.size + 2, 2, none⟩ = false := B_r.frozen 2
  have e_r_3 : w4'.cell? ⟨w.heap.size + 2, 3, none⟩ = some (.int .i64 0) := B_r.cell 3
  have f_r_3 : w4'.frozen? ⟨w.heap.size + 2, 3, none⟩ = false := B_r.frozen 3
  have e_r_4 : w4'.cell? ⟨w.heap.size + 2, 4, none⟩ = some (.int .i64 0) := B_r.cell 4
  have f_r_4 : w4'.frozen? ⟨w.heap.size + 2, 4, none⟩ = false := B_r.frozen 4
  have e_r_5 : w4'.cell? ⟨w.heap.size + 2, 5, none⟩ = some (.slice none 0 0) := B_r.cell 5
  have f_r_5 : w4'.frozen? ⟨w.heap.size + 2, 5, none⟩ = false := B_r.frozen 5
  have e_r_6 : w4'.cell? ⟨w.heap.size + 2, 6, none⟩ = some (.slice none 0 0) := B_r.cell 6
  have f_r_6 : w4'.frozen? ⟨w.heap.size + 2, 6, none⟩ = false := B_r.frozen 6
  have e_r_7 : w4'.cell? ⟨w.heap.size + 2, 7, none⟩ = some (.int .i64 0) := B_r.cell 7
  have f_r_7 : w4'.frozen? ⟨w.heap.size + 2, 7, none⟩ = false := B_r.frozen 7
  have e_r_8 : w4'.cell? ⟨w.heap.size + 2, 8, none⟩ = some (.slice none 0 0) := B_r.cell 8
  have f_r_8 : w4'.frozen? ⟨w.heap.size + 2, 8, none⟩ = false := B_r.frozen 8
  have e_r_9 : w4'.cell? ⟨w.heap.size + 2, 9, none⟩ = some (.int .i64 0) := B_r.cell 9
  have f_r_9 : w4'.frozen? ⟨w.heap.size + 2, 9, none⟩ = false := B_r.frozen 9
  have e_r_10 : w4'.cell? ⟨w.heap.size + 2, 10, none⟩ = some (.int .i64 0) := B_r.cell 10
  have f_r_10 : w4'.frozen? ⟨w.heap.size + 2, 10, none⟩ = false := B_r.frozen 10
  go_wp2
  clear e_b_0 f_b_0 e_b_1 f_b_1 e_b_2 f_b_2 e_b_3 f_b_3 e_b_4 f_b_4 e_b_5 f_b_5 e_b_6 f_b_6 e_b_7 f_b_7 e_b_8 f_b_8 e_b_9 f_b_9 e_b_10 f_b_10 e_r_0 f_r_0 e_r_1 f_r_1 e_r_2 f_r_2 e_r_3 f_r_3 e_r_4 f_r_4 e_r_5 f_r_5 e_r_6 f_r_6 e_r_7 f_r_7 e_r_8 f_r_8 e_r_9 f_r_9 e_r_10 f_r_10
  have g_1 : Only [w2'.heap.size] w4' (w4'.setCell ⟨w2'.heap.size, 9, none⟩ (.int .i64 2)) := (Only.refl _ _).setCell _ _ (by simp)
  replace B_b := B_b.set_ 9 (.int .i64 2)
  generalize w4'.setCell ⟨w2'.heap.size, 9, none⟩ (.int .i64 2) = w5_1' at *
  have G := g_1
  clear g_1
  simp only [List.setIfInBounds_toArray, List.set_cons_zero, List.set_cons_succ] at B_b
  have V_w5'_0 : Below w.heap.size w w5_1' := (V_w4').trans (G.below (V_w4').size (fun q hq => by have := (V_w4').size; simp at hq; omega))
  replace B_a := B_a.only G (by first | (simp; done) | (simp; omega))
  replace B_m := B_m.only G (by first | (simp; done) | (simp; omega))
  replace B_r := B_r.only G (by first | (simp; done) | (simp; omega))
  replace o := o.only G (fun q hq hq' => by have := Q_o.out q hq; simp at hq'; omega)
  have sG0 := G.size
  clear G
  clear V_w4'
  have g_2 : Only [w.heap.size + 2] w5_1' (w5_1'.setCell ⟨w.heap.size + 2, 0, none⟩ (.int .i64 a.P)) := (Only.refl _ _).setCell _ _ (by simp)
  replace B_r := B_r.set_ 0 (.int .i64 a.P)
  generalize w5_1'.setCell ⟨w.heap.size + 2, 0, none⟩ (.int .i64 a.P) = w5_2' at *
  have G := g_2
  clear g_2
  have g_3 : Only [w.heap.size + 2] w5_2' (w5_2'.setCell ⟨w.heap.size + 2, 1, none⟩ (.int .i64 a.party)) := (Only.refl _ _).setCell _ _ (by simp)
  replace B_r := B_r.set_ 1 (.int .i64 a.party)
  generalize w5_2'.setCell ⟨w.heap.size + 2, 1, none⟩ (.int .i64 a.party) = w5_3' at *
  replace G := G.trans g_3
  clear g_3
  have g_4 : Only [w.heap.size + 2] w5_3' (w5_3'.setCell ⟨w.heap.size + 2, 2, none⟩ (.int .i64 a.input)) := (Only.refl _ _).setCell _ _ (by simp)
  replace B_r := B_r.set_ 2 (.int .i64 a.input)
  generalize w5_3'.setCell ⟨w.heap.size + 2, 2, none⟩ (.int .i64 a.input) = w5_4' at *
  replace G := G.trans g_4
  clear g_4
  have g_5 : Only [w.heap.size + 2] w5_4' (w5_4'.setCell ⟨w.heap.size + 2, 3, none⟩ (.int .i64 a.mask)) := (Only.refl _ _).setCell _ _ (by simp)
  replace B_r := B_r.set_ 3 (.int .i64 a.mask)
  generalize w5_4'.setCell ⟨w.heap.size + 2, 3, none⟩ (.int .i64 a.mask) = w5_5' at *
  replace G := G.trans g_5
  clear g_5
  have g_6 : Only [w.heap.size + 2] w5_5' (w5_5'.setCell ⟨w.heap.size + 2, 4, none⟩ (.int .i64 a.delta)) := (Only.refl _ _).setCell _ _ (by simp)
  replace B_r := B_r.set_ 4 (.int .i64 a.delta)
  generalize w5_5'.setCell ⟨w.heap.size + 2, 4, none⟩ (.int .i64 a.delta) = w5_6' at *
  replace G := G.trans g_6
  clear g_6
  have g_7 : Only [w.heap.size + 2] w5_6' (w5_6'.setCell ⟨w.heap.size + 2, 5, none⟩ (.slice y.sa y.sn y.sc)) := (Only.refl _ _).setCell _ _ (by simp)
  replace B_r := B_r.set_ 5 (.slice y.sa y.sn y.sc)
  generalize w5_6'.setCell ⟨w.heap.size + 2, 5, none⟩ (.slice y.sa y.sn y.sc) = w5_7' at *
  replace G := G.trans g_7
  clear g_7
  have g_8 : Only [w.heap.size + 2] w5_7' (w5_7'.setCell ⟨w.heap.size + 2, 6, none⟩ (.slice y.ka y.kn y.kc)) := (Only.refl _ _).setCell _ _ (by simp)
  replace B_r := B_r.set_ 6 (.slice y.ka y.kn y.kc)
  generalize w5_7'.setCell ⟨w.heap.size + 2, 6, none⟩ (.slice y.ka y.kn y.kc) = w5_8' at *
  replace G := G.trans g_8
  clear g_8
  have g_9 : Only [w.heap.size + 2] w5_8' (w5_8'.setCell ⟨w.heap.size + 2, 7, none⟩ (.int .i64 a.step)) := (Only.refl _ _).setCell _ _ (by simp)
  replace B_r := B_r.set_ 7 (.int .i64 a.step)
  generalize w5_8'.setCell ⟨w.heap.size + 2, 7, none⟩ (.int .i64 a.step) = w5_9' at *
  replace G := G.trans g_9
  clear g_9
  have g_10 : Only [w.heap.size + 2] w5_9' (w5_9'.setCell ⟨w.heap.size + 2, 8, none⟩ (.slice y.ha y.hn y.hc)) := (Only.refl _ _).setCell _ _ (by simp)
  replace B_r := B_r.set_ 8 (.slice y.ha y.hn y.hc)
  generalize w5_9'.setCell ⟨w.heap.size + 2, 8, none⟩ (.slice y.ha y.hn y.hc) = w5_10' at *
  replace G := G.trans g_10
  clear g_10
  have g_11 : Only [w.heap.size + 2] w5_10' (w5_10'.setCell ⟨w.heap.size + 2, 9, none⟩ (.int .i64 2)) := (Only.refl _ _).setCell _ _ (by simp)
  replace B_r := B_r.set_ 9 (.int .i64 2)
  generalize w5_10'.setCell ⟨w.heap.size + 2, 9, none⟩ (.int .i64 2) = w5_11' at *
  replace G := G.trans g_11
  clear g_11
  have g_12 : Only [w.heap.size + 2] w5_11' (w5_11'.setCell ⟨w.heap.size + 2, 10, none⟩ (.int .i64 a.out)) := (Only.refl _ _).setCell _ _ (by simp)
  replace B_r := B_r.set_ 10 (.int .i64 a.out)
  generalize w5_11'.setCell ⟨w.heap.size + 2, 10, none⟩ (.int .i64 a.out) = w5' at *
  replace G := G.trans g_12
  clear g_12
  simp only [List.setIfInBounds_toArray, List.set_cons_zero, List.set_cons_succ] at B_r
  have V_w5' : Below w.heap.size w w5' := (V_w5'_0).trans (G.below (V_w5'_0).size (fun q hq => by have := (V_w5'_0).size; simp at hq; omega))
  replace B_a := B_a.only G (by first | (simp; done) | (simp; omega))
  replace B_m := B_m.only G (by first | (simp; done) | (simp; omega))
  replace B_b := B_b.only G (by first | (simp; done) | (simp; omega))
  replace o := o.only G (fun q hq hq' => by have := Q_o.out q hq; simp at hq'; omega)
  have sG1 := G.size
  clear G
  clear V_w5'_0
  have S_w5' : w4'.heap.size + 0 ≤ w5'.heap.size := by omega
  clear sG0 sG1
  have e_r_0 : w5'.cell? ⟨w.heap.size + 2, 0, none⟩ = some (.int .i64 a.P) := B_r.cell 0
  have e_r_1 : w5'.cell? ⟨w.heap.size + 2, 1, none⟩ = some (.int .i64 a.party) := B_r.cell 1
  have e_r_2 : w5'.cell? ⟨w.heap.size + 2, 2, none⟩ = some (.int .i64 a.input) := B_r.cell 2
  have e_r_3 : w5'.cell? ⟨w.heap.size + 2, 3, none⟩ = some (.int .i64 a.mask) := B_r.cell 3
  have e_r_4 : w5'.cell? ⟨w.heap.size + 2, 4, none⟩ = some (.int .i64 a.delta) := B_r.cell 4
  have e_r_5 : w5'.cell? ⟨w.heap.size + 2, 5, none⟩ = some (.slice y.sa y.sn y.sc) := B_r.cell 5
  have e_r_6 : w5'.cell? ⟨w.heap.size + 2, 6, none⟩ = some (.slice y.ka y.kn y.kc) := B_r.cell 6
  have e_r_7 : w5'.cell? ⟨w.heap.size + 2, 7, none⟩ = some (.int .i64 a.step) := B_r.cell 7
  have e_r_8 : w5'.cell? ⟨w.heap.size + 2, 8, none⟩ = some (.slice y.ha y.hn y.hc) := B_r.cell 8
  have e_r_9 : w5'.cell? ⟨w.heap.size + 2, 9, none⟩ = some (.int .i64 2) := B_r.cell 9
  have e_r_10 : w5'.cell? ⟨w.heap.size + 2, 10, none⟩ = some (.int .i64 a.out) := B_r.cell 10
  exact bodyPost_ret (v := .agg #[.int .i64 a.P, .int .i64 a.party, .int .i64 a.input, .int .i64 a.mask, .int .i64 a.delta, .slice y.sa y.sn y.sc, .slice y.ka y.kn y.kc, .int .i64 a.step, .slice y.ha y.hn y.hc, .int .i64 2, .int .i64 a.out]) (by simp [results, Tryd.results92, go_sem, e_r_0, e_r_1, e_r_2, e_r_3, e_r_4, e_r_5, e_r_6, e_r_7, e_r_8, e_r_9, e_r_10]) rfl ⟨y, F, rfl, o.lower (by omega), V_w5'⟩
theorem acc_parts {a : Pl} {fr st : Int} {b : List Int} (h : accB a fr st b = true) : b.length = blen a.step.toNat ∧ ∀ v ∈ b, 0 ≤ v ∧ v ≤ a.P - 1 := by
  unfold accB bodyB at h
  simp only [Bool.and_eq_true, decide_eq_true_eq] at h
  exact ⟨h.2.2.1.1, (allB_iff _ _ _).1 h.2.2.1.2⟩
end Go.Proofs.YtlmdckcohoddnaaDoor
namespace Go.Proofs.YtlmdckcohoddnaaDoor
open Go.RowKit
set_option maxHeartbeats 16000000 in
set_option maxRecDepth 100000 in
theorem ptOwn_any (a : Pl) (x : PlX) (w : World) (h : PlR w x a.shares a.keys a.heard) (hN : PlN a) :
    Calls Tryd.prog 90 #[.agg #[.int .i64 a.P, .int .i64 a.party, .int .i64 a.input, .int .i64 a.mask, .int .i64 a.delta, .slice x.sa x.sn x.sc, .slice x.ka x.kn x.kc, .int .i64 a.step, .slice x.ha x.hn x.hc, .int .i64 a.status, .int .i64 a.out]] w fun e w' => ∃ y F, e = .returned (.agg #[.int .i64 a.P, .int .i64 a.party, .int .i64 a.input, .int .i64 a.mask, .int .i64 a.delta, .slice y.sa y.sn y.sc, .slice y.ka y.kn y.kc, .int .i64 a.step, .slice y.ha y.hn y.hc, .int .i64 a.status, .int .i64 a.out]) ∧ PlO w' w.heap.size y a.shares a.keys a.heard F ∧ Below w.heap.size w w' := by
  obtain ⟨hS, hK, rs, hH, hD⟩ := h
  have hs5 : x.sn = 5 := by have := hS.len; have := hN.sl; omega
  have hk5 : x.kn = 5 := by have := hK.len; have := hN.kl; omega
  have hrl := hH.len
  have hh3 : x.hn ≤ 3 := by have := hN.hl; have := hN.stp; have : rs.length = a.heard.length := by rw [← hD, datas_len]
                            omega
  have hdl : a.heard.length = x.hn := by rw [← hD, datas_len]; exact hrl
  have HR := Lib.hid (fun (k : Nat) (hk : k < x.hn) => (show (rowAt rs k).2.2 = hAt a.heard k ∧ (rowAt rs k).2.2.length ≤ 4 by
    have e := hAt_rs hD k (by omega)
    exact ⟨e.symm, by rw [← e, (hN.hb k (by omega)).1]; exact (blen_bd k).2⟩))
  have HL := Lib.hid hdl
  clear hN hD hrl hdl
  obtain ⟨x_sa, x_sn, x_sc, x_ka, x_kn, x_kc, x_ha, x_hn, x_hc⟩ := x
  dsimp only at *
  subst hs5
  subst hk5
  go_enter Tryd.func90, Tryd.ntmps90
  go_upto_region 2 with fail
  have V_w1'_1 : Below w.heap.size w (w.alloc (.cells #[.int .i64 a.P, .int .i64 a.party, .int .i64 a.input, .int .i64 a.mask, .int .i64 a.delta, .slice x_sa 5 x_sc, .slice x_ka 5 x_kc, .int .i64 a.step, .slice x_ha x_hn x_hc, .int .i64 a.status, .int .i64 a.out] 31)) := ((Below.refl w.heap.size w)).alloc (by have := ((Below.refl w.heap.size w)).size; first | exact this | (simp at *; omega)) _
  have B_a : Blk (w.alloc (.cells #[.int .i64 a.P, .int .i64 a.party, .int .i64 a.input, .int .i64 a.mask, .int .i64 a.delta, .slice x_sa 5 x_sc, .slice x_ka 5 x_kc, .int .i64 a.step, .slice x_ha x_hn x_hc, .int .i64 a.status, .int .i64 a.out] 31)) (w.heap.size) 31 #[.int .i64 a.P, .int .i64 a.party, .int .i64 a.input, .int .i64 a.mask, .int .i64 a.delta, .slice x_sa 5 x_sc, .slice x_ka 5 x_kc, .int .i64 a.step, .slice x_ha x_hn x_hc, .int .i64 a.status, .int .i64 a.out] := by exact Blk.new w 31 #[.int .i64 a.P, .int .i64 a.party, .int .i64 a.input, .int .i64 a.mask, .int .i64 a.delta, .slice x_sa 5 x_sc, .slice x_ka 5 x_kc, .int .i64 a.step, .slice x_ha x_hn x_hc, .int .i64 a.status, .int .i64 a.out]
  have V_w1'_2 : Below w.heap.size w ((w.alloc (.cells #[.int .i64 a.P, .int .i64 a.party, .int .i64 a.input, .int .i64 a.mask, .int .i64 a.delta, .slice x_sa 5 x_sc, .slice x_ka 5 x_kc, .int .i64 a.step, .slice x_ha x_hn x_hc, .int .i64 a.status, .int .i64 a.out] 31)).alloc (.cells #[.int .i64 0, .int .i64 0, .int .i64 0, .int .i64 0, .int .i64 0, .slice none 0 0, .slice none 0 0, .int .i64 0, .slice none 0 0, .int .i64 0, .int .i64 0] 31)) := (V_w1'_1).alloc (by have := (V_w1'_1).size; first | exact this | (simp at *; omega)) _
  replace B_a := B_a.alloc (.cells #[.int .i64 0, .int .i64 0, .int .i64 0, .int .i64 0, .int .i64 0, .slice none 0 0, .slice none 0 0, .int .i64 0, .slice none 0 0, .int .i64 0, .int .i64 0] 31)
  have B_r : Blk ((w.alloc (.cells #[.int .i64 a.P, .int .i64 a.party, .int .i64 a.input, .int .i64 a.mask, .int .i64 a.delta, .slice x_sa 5 x_sc, .slice x_ka 5 x_kc, .int .i64 a.step, .slice x_ha x_hn x_hc, .int .i64 a.status, .int .i64 a.out] 31)).alloc (.cells #[.int .i64 0, .int .i64 0, .int .i64 0, .int .i64 0, .int .i64 0, .slice none 0 0, .slice none 0 0, .int .i64 0, .slice none 0 0, .int .i64 0, .int .i64 0] 31)) (w.heap.size + 1) 31 #[.int .i64 0, .int .i64 0, .int .i64 0, .int .i64 0, .int .i64 0, .slice none 0 0, .slice none 0 0, .int .i64 0, .slice none 0 0, .int .i64 0, .int .i64 0] := by simpa [World.setCell] using (Blk.new (w.alloc (.cells #[.int .i64 a.P, .int .i64 a.party, .int .i64 a.input, .int .i64 a.mask, .int .i64 a.delta, .slice x_sa 5 x_sc, .slice x_ka 5 x_kc, .int .i64 a.step, .slice x_ha x_hn x_hc, .int .i64 a.status, .int .i64 a.out] 31)) 31 #[.int .i64 0, .int .i64 0, .int .i64 0, .int .i64 0, .int .i64 0, .slice none 0 0, .slice none 0 0, .int .i64 0, .slice none 0 0, .int .i64 0, .int .i64 0])
  have V_w1'_3 : Below w.heap.size w (((w.alloc (.cells #[.int .i64 a.P, .int .i64 a.party, .int .i64 a.input, .int .i64 a.mask, .int .i64 a.delta, .slice x_sa 5 x_sc, .slice x_ka 5 x_kc, .int .i64 a.step, .slice x_ha x_hn x_hc, .int .i64 a.status, .int .i64 a.out] 31)).alloc (.cells #[.int .i64 0, .int .i64 0, .int .i64 0, .int .i64 0, .int .i64 0, .slice none 0 0, .slice none 0 0, .int .i64 0, .slice none 0 0, .int .i64 0, .int .i64 0] 31)).alloc (.cells #[.int .i64 a.P, .int .i64 a.party, .int .i64 a.input, .int .i64 a.mask, .int .i64 a.delta, .slice x_sa 5 x_sc, .slice x_ka 5 x_kc, .int .i64 a.step, .slice x_ha x_hn x_hc, .int .i64 a.status, .int .i64 a.out] 31)) := (V_w1'_2).alloc (by have := (V_w1'_2).size; first | exact this | (simp at *; omega)) _
  replace B_a := B_a.alloc (.cells #[.int .i64 a.P, .int .i64 a.party, .int .i64 a.input, .int .i64 a.mask, .int .i64 a.delta, .slice x_sa 5 x_sc, .slice x_ka 5 x_kc, .int .i64 a.step, .slice x_ha x_hn x_hc, .int .i64 a.status, .int .i64 a.out] 31)
  replace B_r := B_r.alloc (.cells #[.int .i64 a.P, .int .i64 a.party, .int .i64 a.input, .int .i64 a.mask, .int .i64 a.delta, .slice x_sa 5 x_sc, .slice x_ka 5 x_kc, .int .i64 a.step, .slice x_ha x_hn x_hc, .int .i64 a.status, .int .i64 a.out] 31)
  have B_b : Blk (((w.alloc (.cells #[.int .i64 a.P, .int .i64 a.party, .int .i64 a.input, .int .i64 a.mask, .int .i64 a.delta, .slice x_sa 5 x_sc, .slice x_ka 5 x_kc, .int .i64 a.step, .slice x_ha x_hn x_hc, .int .i64 a.status, .int .i64 a.out] 31)).alloc (.cells #[.int .i64 0, .int .i64 0, .int .i64 0, .int .i64 0, .int .i64 0, .slice none 0 0, .slice none 0 0, .int .i64 0, .slice none 0 0, .int .i64 0, .int .i64 0] 31)).alloc (.cells #[.int .i64 a.P, .int .i64 a.party, .int .i64 a.input, .int .i64 a.mask, .int .i64 a.delta, .slice x_sa 5 x_sc, .slice x_ka 5 x_kc, .int .i64 a.step, .slice x_ha x_hn x_hc, .int .i64 a.status, .int .i64 a.out] 31)) (w.heap.size + 2) 31 #[.int .i64 a.P, .int .i64 a.party, .int .i64 a.input, .int .i64 a.mask, .int .i64 a.delta, .slice x_sa 5 x_sc, .slice x_ka 5 x_kc, .int .i64 a.step, .slice x_ha x_hn x_hc, .int .i64 a.status, .int .i64 a.out] := by simpa [World.setCell] using (Blk.new ((w.alloc (.cells #[.int .i64 a.P, .int .i64 a.party, .int .i64 a.input, .int .i64 a.mask, .int .i64 a.delta, .slice x_sa 5 x_sc, .slice x_ka 5 x_kc, .int .i64 a.step, .slice x_ha x_hn x_hc, .int .i64 a.status, .int .i64 a.out] 31)).alloc (.cells #[.int .i64 0, .int .i64 0, .int .i64 0, .int .i64 0, .int .i64 0, .slice none 0 0, .slice none 0 0, .int .i64 0, .slice none 0 0, .int .i64 0, .int .i64 0] 31)) 31 #[.int .i64 a.P, .int .i64 a.party, .int .i64 a.input, .int .i64 a.mask, .int .i64 a.delta, .slice x_sa 5 x_sc, .slice x_ka 5 x_kc, .int .i64 a.step, .slice x_ha x_hn x_hc, .int .i64 a.status, .int .i64 a.out])
  have S_w1' : w.heap.size + 3 ≤ (((w.alloc (.cells #[.int .i64 a.P, .int .i64 a.party, .int .i64 a.input, .int .i64 a.mask, .int .i64 a.delta, .slice x_sa 5 x_sc, .slice x_ka 5 x_kc, .int .i64 a.step, .slice x_ha x_hn x_hc, .int .i64 a.status, .int .i64 a.out] 31)).alloc (.cells #[.int .i64 0, .int .i64 0, .int .i64 0, .int .i64 0, .int .i64 0, .slice none 0 0, .slice none 0 0, .int .i64 0, .slice none 0 0, .int .i64 0, .int .i64 0] 31)).alloc (.cells #[.int .i64 a.P, .int .i64 a.party, .int .i64 a.input, .int .i64 a.mask, .int .i64 a.delta, .slice x_sa 5 x_sc, .slice x_ka 5 x_kc, .int .i64 a.step, .slice x_ha x_hn x_hc, .int .i64 a.status, .int .i64 a.out] 31)).heap.size := by first | (simp; done) | (simp; omega) | (simp [World.setCell]; done) | (simp [World.setCell]; omega)
  generalize (((w.alloc (.cells #[.int .i64 a.P, .int .i64 a.party, .int .i64 a.input, .int .i64 a.mask, .int .i64 a.delta, .slice x_sa 5 x_sc, .slice x_ka 5 x_kc, .int .i64 a.step, .slice x_ha x_hn x_hc, .int .i64 a.status, .int .i64 a.out] 31)).alloc (.cells #[.int .i64 0, .int .i64 0, .int .i64 0, .int .i64 0, .int .i64 0, .slice none 0 0, .slice none 0 0, .int .i64 0, .slice none 0 0, .int .i64 0, .int .i64 0] 31)).alloc (.cells #[.int .i64 a.P, .int .i64 a.party, .int .i64 a.input, .int .i64 a.mask, .int .i64 a.delta, .slice x_sa 5 x_sc, .slice x_ka 5 x_kc, .int .i64 a.step, .slice x_ha x_hn x_hc, .int .i64 a.status, .int .i64 a.out] 31)) = w1' at *
  clear V_w1'_1 V_w1'_2
  have V_w1' : Below w.heap.size w w1' := V_w1'_3
  clear V_w1'_3
  rw [show w.heap.size + 1 + 1 = w.heap.size + 2 from rfl]
  have e_a_5 : w1'.cell? ⟨w.heap.size, 5, none⟩ = some (.slice x_sa 5 x_sc) := B_a.cell 5
  have e5A : (w1'.alloc (.cells #[] 81)).cell? ⟨w.heap.size, 5, none⟩ = some (.slice x_sa 5 x_sc) := keepA _ e_a_5
  have hS2 := Flat.alloc (hS.below V_w1') (.cells #[] 81)
  go_wp2_with (at_builtin; refine wpList_appT rfl _ _ rfl w1'.heap.size _ 0 0 [] rfl (OwnC.nil0 _ _ _ _ _) _ 5 x_sc _ rfl hS2 (one_ints a.shares) (by omega) (by simp) ?_)
  intro b5 d5 w5 o5 u5 g5 m5
  replace o5 : OwnF 2 eTagged w5 w1'.heap.size b5 5 d5 a.shares := o5
  replace o5 := o5.lower (b' := w.heap.size + 3) S_w1'
  have u9 : Below w1'.heap.size w1' w5 := ((Below.refl _ _).alloc (Nat.le_refl _) _).trans u5
  clear u5 g5 m5 hS2 e5A
  clear e_a_5
  replace B_a := B_a.below u9
  replace B_r := B_r.below u9
  replace B_b := B_b.below u9
  have S_w5 := u9.size
  have V_w5 : Below w.heap.size w w5 := V_w1'.trans (u9.mono V_w1'.size)
  clear V_w1'
  clear u9
  have Q_o5 := Lib.hid o5.feet
  have e_b_5 : w5.cell? ⟨w.heap.size + 2, 5, none⟩ = some (.slice x_sa 5 x_sc) := B_b.cell 5
  have f_b_5 : w5.frozen? ⟨w.heap.size + 2, 5, none⟩ = false := B_b.frozen 5
  have e_a_6 : w5.cell? ⟨w.heap.size, 6, none⟩ = some (.slice x_ka 5 x_kc) := B_a.cell 6
  go_wp2_with fail
  clear e_b_5 f_b_5 e_a_6
  have G_1 : Only [w.heap.size + 2] w5 (w5.setCell ⟨w.heap.size + 2, 5, none⟩ (.slice b5 5 d5)) := (Only.refl _ _).setCell ⟨w.heap.size + 2, 5, none⟩ _ (by simp)
  have V_w2'_1 : Below w.heap.size w (w5.setCell ⟨w.heap.size + 2, 5, none⟩ (.slice b5 5 d5)) := (V_w5).trans (G_1.below (V_w5).size (fun q hq => by have := (V_w5).size; simp at hq; omega))
  replace B_a := B_a.only G_1 (by first | (simp; done) | (simp; omega))
  replace B_r := B_r.only G_1 (by first | (simp; done) | (simp; omega))
  replace B_b : Blk (w5.setCell ⟨w.heap.size + 2, 5, none⟩ (.slice b5 5 d5)) (w.heap.size + 2) 31 #[.int .i64 a.P, .int .i64 a.party, .int .i64 a.input, .int .i64 a.mask, .int .i64 a.delta, .slice b5 5 d5, .slice x_ka 5 x_kc, .int .i64 a.step, .slice x_ha x_hn x_hc, .int .i64 a.status, .int .i64 a.out] := B_b.set_ 5 (.slice b5 5 d5)
  replace o5 := o5.only G_1 (fun q hq hq' => by have := Q_o5.out q hq; simp at hq'; omega)
  clear G_1
  have S_w2' : w5.heap.size + 0 ≤ (w5.setCell ⟨w.heap.size + 2, 5, none⟩ (.slice b5 5 d5)).heap.size := by first | (simp; done) | (simp; omega) | (simp [World.setCell]; done) | (simp [World.setCell]; omega)
  generalize (w5.setCell ⟨w.heap.size + 2, 5, none⟩ (.slice b5 5 d5)) = w2' at *
  have V_w2' : Below w.heap.size w w2' := V_w2'_1
  clear V_w5
  clear V_w2'_1
  have R5 := Lib.hid o5.feet
  refine (l1Own_any _ _ _ a.keys _ (hK.below V_w2') (by omega)).mono ?_
  rintro e w3' ⟨b6, d6, rfl, o6, u_w3'⟩
  replace B_a := B_a.below u_w3'
  replace B_r := B_r.below u_w3'
  replace B_b := B_b.below u_w3'
  replace o5 := o5.below u_w3'
  have S_w3' := u_w3'.size
  have V_w3' : Below w.heap.size w w3' := V_w2'.trans (u_w3'.mono V_w2'.size)
  clear V_w2'
  clear u_w3'
  have D56 : Disj (foot b5 d5) (foot b6 d6) := Disj.of_rng R5.out o6.feet (Or.inl (Nat.le_refl _))
  replace o6 := o6.lower (b' := w.heap.size + 3) (by have := S_w1'; have := S_w5; have := S_w2'; omega)
  have Q_o6 := Lib.hid o6.feet
  have e_b_6 : w3'.cell? ⟨w.heap.size + 2, 6, none⟩ = some (.slice x_ka 5 x_kc) := B_b.cell 6
  have f_b_6 : w3'.frozen? ⟨w.heap.size + 2, 6, none⟩ = false := B_b.frozen 6
  have e_b_8 : w3'.cell? ⟨w.heap.size + 2, 8, none⟩ = some (.slice x_ha x_hn x_hc) := B_b.cell 8
  have f_b_8 : w3'.frozen? ⟨w.heap.size + 2, 8, none⟩ = false := B_b.frozen 8
  have e_a_8 : w3'.cell? ⟨w.heap.size, 8, none⟩ = some (.slice x_ha x_hn x_hc) := B_a.cell 8
  go_wp2
  clear e_b_6 f_b_6 e_b_8 f_b_8 e_a_8
  have g_1 : Only [w.heap.size + 2] w3' (w3'.setCell ⟨w.heap.size + 2, 6, none⟩ (.slice b6 5 d6)) := (Only.refl _ _).setCell _ _ (by simp)
  replace B_b := B_b.set_ 6 (.slice b6 5 d6)
  generalize w3'.setCell ⟨w.heap.size + 2, 6, none⟩ (.slice b6 5 d6) = w4_1' at *
  have G := g_1
  clear g_1
  have g_2 : Only [w.heap.size + 2] w4_1' (w4_1'.setCell ⟨w.heap.size + 2, 8, none⟩ (.slice none 0 0)) := (Only.refl _ _).setCell _ _ (by simp)
  replace B_b := B_b.set_ 8 (.slice none 0 0)
  generalize w4_1'.setCell ⟨w.heap.size + 2, 8, none⟩ (.slice none 0 0) = w4' at *
  replace G := G.trans g_2
  clear g_2
  simp only [List.setIfInBounds_toArray, List.set_cons_zero, List.set_cons_succ] at B_b
  have V_w4' : Below w.heap.size w w4' := (V_w3').trans (G.below (V_w3').size (fun q hq => by have := (V_w3').size; simp at hq; omega))
  replace B_a := B_a.only G (by first | (simp; done) | (simp; omega))
  replace B_r := B_r.only G (by first | (simp; done) | (simp; omega))
  replace o5 := o5.only G (fun q hq hq' => by have := Q_o5.out q hq; simp at hq'; omega)
  replace o6 := o6.only G (fun q hq hq' => by have := Q_o6.out q hq; simp at hq'; omega)
  have sG0 := G.size
  clear G
  clear V_w3'
  have S_w4' : w3'.heap.size + 0 ≤ w4'.heap.size := by omega
  clear sG0
  have LL : w.heap.size + 3 ≤ w4'.heap.size := by have := S_w1'; have := S_w5; have := S_w2'; have := S_w3'; have := S_w4'; omega
  have R5 := Lib.hid o5.feet
  have R6 := Lib.hid o6.feet
  have LV := Lib.hid V_w4'
  go_loopw [20] (fun v wr => ∃ k : Nat, k ≤ x_hn ∧ v = .int .i64 k ∧ Below w.heap.size w wr ∧ Blk wr w.heap.size 31 #[.int .i64 a.P, .int .i64 a.party, .int .i64 a.input, .int .i64 a.mask, .int .i64 a.delta, .slice x_sa 5 x_sc, .slice x_ka 5 x_kc, .int .i64 a.step, .slice x_ha x_hn x_hc, .int .i64 a.status, .int .i64 a.out] ∧ Blk wr (w.heap.size + 1) 31 #[.int .i64 0, .int .i64 0, .int .i64 0, .int .i64 0, .int .i64 0, .slice none 0 0, .slice none 0 0, .int .i64 0, .slice none 0 0, .int .i64 0, .int .i64 0] ∧ OwnF 2 eTagged wr (w.heap.size + 3) b5 5 d5 a.shares ∧ Own wr (w.heap.size + 3) b6 5 d6 a.keys ∧ w4'.heap.size ≤ wr.heap.size ∧ ∃ c3 d3 rs', Blk wr (w.heap.size + 2) 31 #[.int .i64 a.P, .int .i64 a.party, .int .i64 a.input, .int .i64 a.mask, .int .i64 a.delta, .slice b5 5 d5, .slice b6 5 d6, .int .i64 a.step, .slice c3 k d3, .int .i64 a.status, .int .i64 a.out] ∧ OwnSS wr w4'.heap.size c3 k d3 rs' ∧ datas' rs' = a.heard.take k) (fun v _ => x_hn - (intOf v).toNat)
  case atStart => exact ⟨0, by omega, rfl, LV.out, B_a, B_r, o5, o6, Nat.le_refl _, none, 0, [], B_b, OwnSS.nil0 _ _ _, by simp [datas']⟩
  case round =>
    obtain ⟨k, hk, rfl, V_wr, B_a, B_r, o5, o6, SL, c3, d3, rs', B_b, own, hd3⟩ := hrel
    by_cases hlt : k < x_hn
    · obtain ⟨g, o, rfl, c0, inn⟩ := (hH.below V_wr).at k hlt
      obtain ⟨hr1, hr2⟩ := HR.out k hlt
      have hlt' : (k : Int) < (x_hn : Int) := by omega
      have HE : Hid (a.heard.take (k + 1) = a.heard.take k ++ [(rowAt rs k).2.2]) := Lib.hid (by
        rw [hr1, List.take_add_one]
        have : k < a.heard.length := by rw [HL.out]; exact hlt
        simp [hAt, List.getD, this])
      generalize rowAt rs k = r at *
      obtain ⟨ra, rc, rl⟩ := r
      dsimp only at *
      clear hr1
      have hd4 := Lib.hid hd3
      clear hd3
      have rl4 : rl.length ≤ 10000000 := by omega
      have e_b_8 : wr.cell? ⟨w.heap.size + 2, 8, none⟩ = some (.slice c3 k d3) := B_b.cell 8
      go_wp2
      refine wp_region_noPanic ?_
      refine wp_region_held_drew (S := (fun _ => True)) (by kernel_rfl) ?hS1 (fun hHeld => ?go1)
      case hS1 => trivial
      refine wpAnyH_take (i := 0) (oi := { dst := some 24, op := _, type := _, pos := _, after := _, guard := _ }) (v := ?v0_2) rfl (by kernel_rfl) (by kernel_rfl) (by kernel_rfl) (fun _ _ _ h => h) (Or.inl ⟨by rfl, ?hy0_2⟩) hHeld ?rest0_2
      case hy0_2 => (intro w _; first | (go_simp; done) | (go_simp; with_reducible rfl) | (with_reducible rfl))
      (try simp only [Act.put, List.setIfInBounds_toArray, List.set_cons_zero, List.set_cons_succ])
      refine wpAnyH_take (i := 2) (oi := { dst := some 26, op := _, type := _, pos := _, after := _, guard := _ }) (v := ?v2_3) rfl (by kernel_rfl) (by kernel_rfl) (by kernel_rfl) (fun _ _ _ h => h) (Or.inl ⟨by rfl, ?hy2_3⟩) hHeld ?rest2_3
      case hy2_3 => (intro w _; first | (go_simp; done) | (go_simp; with_reducible rfl) | (with_reducible rfl))
      (try simp only [Act.put, List.setIfInBounds_toArray, List.set_cons_zero, List.set_cons_succ])
      refine wpAnyH_ready (rs := [1, 3]) (by kernel_rfl) (by simp) ?_
      refine AllReadyH.cons (o := { dst := some 25, op := _, type := _, pos := _, after := _, guard := _ }) rfl (fun K hK => ?_) ?_
      go_simp
      refine hK.out _ _ ?_ (fun hHeld => ?_)
      · trivial
      clear hK K
      (try simp only [Act.put, List.setIfInBounds_toArray, List.set_cons_zero, List.set_cons_succ])
      refine wpAnyH_ready (rs := [3]) (by kernel_rfl) (by simp) ?_
      refine AllReadyH.cons (o := { dst := some 27, op := _, type := _, pos := _, after := _, guard := _ }) rfl (fun K hK => ?_) ?_
      go_simp
      refine (l1Own_any _ _ _ rl _ (inn.drew) rl4).mono ?_
      rintro e wz ⟨b9, d9, rfl, o9, u9⟩
      have B_b9 := Blk.below B_b.drew u9
      have h8 := B_b9.cell 8
      have h8A := (Blk.alloc B_b9 (.cells #[.slice b9 rl.length d9] 23)).cell 8
      focus (try go_wp2_with fail)
      refine hK.out _ _ ?_ (fun hHeld => ?_)
      · trivial
      clear hK K
      (try simp only [Act.put, List.setIfInBounds_toArray, List.set_cons_zero, List.set_cons_succ])
      refine wpAnyH_ready (rs := [4]) (by kernel_rfl) (by simp) ?_
      refine AllReadyH.cons (o := { dst := some 28, op := _, type := _, pos := _, after := _, guard := _ }) rfl (fun K hK => ?_) ?_
      go_simp
      refine hK.out _ _ ?_ (fun hHeld => ?_)
      · trivial
      clear hK K
      (try simp only [Act.put, List.setIfInBounds_toArray, List.set_cons_zero, List.set_cons_succ])
      refine wpAnyH_ready (rs := [5]) (by kernel_rfl) (by simp) ?_
      refine AllReadyH.cons (o := { dst := some 29, op := _, type := _, pos := _, after := _, guard := _ }) rfl (fun K hK => ?_) ?_
      have hdj : Disj (foot b9 d9) (feetSS c3 d3 rs') := Disj.of_rng o9.feet own.feet (Or.inr (Nat.le_refl _))
      have own2 := own.below ((Below.refl _ _).drew.trans u9)
      have o10 := o9.lower (b' := w4'.heap.size) SL
      have LIT := RowC.lit1 wz (rowV (b9, d9, rl)) 23
      have own3 := OwnSS.alloc own2 (.cells #[rowV (b9, d9, rl)] 23)
      have o11 := Own.alloc o10 (.cells #[rowV (b9, d9, rl)] 23)
      have OO : OwnC (wz.alloc (.cells #[rowV (b9, d9, rl)] 23)) w4'.heap.size c3 k d3 23 1 (rs'.map rowV) := own3.out
      have szz : w4'.heap.size ≤ (wz.alloc (.cells #[rowV (b9, d9, rl)] 23)).heap.size := by have := u9.size; simp at *; omega
      refine step_appSS (by rfl) _ _ (by rfl) w4'.heap.size c3 k d3 (rs'.map rowV) (by rfl) OO _ 1 1 [rowV (b9, d9, rl)] (by rfl) LIT (by simp [rowV, Value.oneCell']) (by omega) szz ?_
      intro a7 c7 w7 oc u7 g7 m7
      have Ng : w.heap.size + 2 ∉ foot c3 d3 := fun hq => by have := (own.feet _ (List.mem_append_left _ hq)).1; omega
      have B_b7 := Blk.only (Blk.alloc B_b9 (.cells #[rowV (b9, d9, rl)] 23)) (Only.of_grown g7) Ng
      have j8 := B_b7.cell 8
      have f8 := B_b7.frozen 8
      refine hK.out _ _ ?_ (fun hHeld => ?_)
      · trivial
      clear hK K
      (try simp only [Act.put, List.setIfInBounds_toArray, List.set_cons_zero, List.set_cons_succ])
      refine wpAnyH_take (i := 6) (oi := { dst := some 30, op := _, type := _, pos := _, after := _, guard := _ }) (v := ?v6_4) rfl (by kernel_rfl) (by kernel_rfl) (by kernel_rfl) (fun _ _ _ h => h) (Or.inl ⟨by rfl, ?hy6_4⟩) hHeld ?rest6_4
      case hy6_4 => (intro w _; first | (go_simp; done) | (go_simp; with_reducible rfl) | (with_reducible rfl))
      (try simp only [Act.put, List.setIfInBounds_toArray, List.set_cons_zero, List.set_cons_succ])
      refine wpAnyH_ready (rs := [7]) (by kernel_rfl) (by simp) ?_
      refine AllReadyH.cons (o := { dst := none, op := _, type := _, pos := _, after := _, guard := _ }) rfl (fun K hK => ?_) ?_
      go_simp
      refine hK.out _ _ ?_ (fun hHeld => ?_)
      · trivial
      clear hK K
      (try simp only [Act.put, List.setIfInBounds_toArray, List.set_cons_zero, List.set_cons_succ])
      refine wpAnyH_done (by kernel_rfl) ?_ _
      refine NoPanic.normal ?_
      rotate_left 1
      exact AllReadyH.nil
      exact AllReadyH.nil
      exact AllReadyH.nil
      exact AllReadyH.nil
      refine AllReadyH.cons (o := { dst := some 27, op := _, type := _, pos := _, after := _, guard := _ }) rfl (fun K hK => ?_) ?_
      go_simp
      refine (l1Own_any _ _ _ rl _ (inn.drew) rl4).mono ?_
      rintro e wz ⟨b9, d9, rfl, o9, u9⟩
      have B_b9 := Blk.below B_b.drew u9
      have h8 := B_b9.cell 8
      have h8A := (Blk.alloc B_b9 (.cells #[.slice b9 rl.length d9] 23)).cell 8
      focus (try go_wp2_with fail)
      refine hK.out _ _ ?_ (fun hHeld => ?_)
      · trivial
      clear hK K
      (try simp only [Act.put, List.setIfInBounds_toArray, List.set_cons_zero, List.set_cons_succ])
      refine wpAnyH_ready (rs := [1, 4]) (by kernel_rfl) (by simp) ?_
      refine AllReadyH.cons (o := { dst := some 25, op := _, type := _, pos := _, after := _, guard := _ }) rfl (fun K hK => ?_) ?_
      go_simp
      refine hK.out _ _ ?_ (fun hHeld => ?_)
      · trivial
      clear hK K
      (try simp only [Act.put, List.setIfInBounds_toArray, List.set_cons_zero, List.set_cons_succ])
      refine wpAnyH_ready (rs := [4]) (by kernel_rfl) (by simp) ?_
      refine AllReadyH.cons (o := { dst := some 28, op := _, type := _, pos := _, after := _, guard := _ }) rfl (fun K hK => ?_) ?_
      go_simp
      refine hK.out _ _ ?_ (fun hHeld => ?_)
      · trivial
      clear hK K
      (try simp only [Act.put, List.setIfInBounds_toArray, List.set_cons_zero, List.set_cons_succ])
      refine wpAnyH_ready (rs := [5]) (by kernel_rfl) (by simp) ?_
      refine AllReadyH.cons (o := { dst := some 29, op := _, type := _, pos := _, after := _, guard := _ }) rfl (fun K hK => ?_) ?_
      have hdj : Disj (foot b9 d9) (feetSS c3 d3 rs') := Disj.of_rng o9.feet own.feet (Or.inr (Nat.le_refl _))
      have own2 := own.below ((Below.refl _ _).drew.trans u9)
      have o10 := o9.lower (b' := w4'.heap.size) SL
      have LIT := RowC.lit1 wz (rowV (b9, d9, rl)) 23
      have own3 := OwnSS.alloc own2 (.cells #[rowV (b9, d9, rl)] 23)
      have o11 := Own.alloc o10 (.cells #[rowV (b9, d9, rl)] 23)
      have OO : OwnC (wz.alloc (.cells #[rowV (b9, d9, rl)] 23)) w4'.heap.size c3 k d3 23 1 (rs'.map rowV) := own3.out
      have szz : w4'.heap.size ≤ (wz.alloc (.cells #[rowV (b9, d9, rl)] 23)).heap.size := by have := u9.size; simp at *; omega
      refine step_appSS (by rfl) _ _ (by rfl) w4'.heap.size c3 k d3 (rs'.map rowV) (by rfl) OO _ 1 1 [rowV (b9, d9, rl)] (by rfl) LIT (by simp [rowV, Value.oneCell']) (by omega) szz ?_
      intro a7 c7 w7 oc u7 g7 m7
      have Ng : w.heap.size + 2 ∉ foot c3 d3 := fun hq => by have := (own.feet _ (List.mem_append_left _ hq)).1; omega
      have B_b7 := Blk.only (Blk.alloc B_b9 (.cells #[rowV (b9, d9, rl)] 23)) (Only.of_grown g7) Ng
      have j8 := B_b7.cell 8
      have f8 := B_b7.frozen 8
      refine hK.out _ _ ?_ (fun hHeld => ?_)
      · trivial
      clear hK K
      (try simp only [Act.put, List.setIfInBounds_toArray, List.set_cons_zero, List.set_cons_succ])
      refine wpAnyH_take (i := 6) (oi := { dst := some 30, op := _, type := _, pos := _, after := _, guard := _ }) (v := ?v6_5) rfl (by kernel_rfl) (by kernel_rfl) (by kernel_rfl) (fun _ _ _ h => h) (Or.inl ⟨by rfl, ?hy6_5⟩) hHeld ?rest6_5
      case hy6_5 => (intro w _; first | (go_simp; done) | (go_simp; with_reducible rfl) | (with_reducible rfl))
      (try simp only [Act.put, List.setIfInBounds_toArray, List.set_cons_zero, List.set_cons_succ])
      refine wpAnyH_ready (rs := [7]) (by kernel_rfl) (by simp) ?_
      refine AllReadyH.cons (o := { dst := none, op := _, type := _, pos := _, after := _, guard := _ }) rfl (fun K hK => ?_) ?_
      go_simp
      refine hK.out _ _ ?_ (fun hHeld => ?_)
      · trivial
      clear hK K
      (try simp only [Act.put, List.setIfInBounds_toArray, List.set_cons_zero, List.set_cons_succ])
      refine wpAnyH_done (by kernel_rfl) ?_ _
      refine NoPanic.normal ?_
      rotate_left 1
      exact AllReadyH.nil
      exact AllReadyH.nil
      exact AllReadyH.nil
      refine AllReadyH.cons (o := { dst := some 28, op := _, type := _, pos := _, after := _, guard := _ }) rfl (fun K hK => ?_) ?_
      go_simp
      refine hK.out _ _ ?_ (fun hHeld => ?_)
      · trivial
      clear hK K
      (try simp only [Act.put, List.setIfInBounds_toArray, List.set_cons_zero, List.set_cons_succ])
      refine wpAnyH_ready (rs := [1]) (by kernel_rfl) (by simp) ?_
      refine AllReadyH.cons (o := { dst := some 25, op := _, type := _, pos := _, after := _, guard := _ }) rfl (fun K hK => ?_) ?_
      go_simp
      refine hK.out _ _ ?_ (fun hHeld => ?_)
      · trivial
      clear hK K
      (try simp only [Act.put, List.setIfInBounds_toArray, List.set_cons_zero, List.set_cons_succ])
      refine wpAnyH_ready (rs := [5]) (by kernel_rfl) (by simp) ?_
      refine AllReadyH.cons (o := { dst := some 29, op := _, type := _, pos := _, after := _, guard := _ }) rfl (fun K hK => ?_) ?_
      have hdj : Disj (foot b9 d9) (feetSS c3 d3 rs') := Disj.of_rng o9.feet own.feet (Or.inr (Nat.le_refl _))
      have own2 := own.below ((Below.refl _ _).drew.trans u9)
      have o10 := o9.lower (b' := w4'.heap.size) SL
      have LIT := RowC.lit1 wz (rowV (b9, d9, rl)) 23
      have own3 := OwnSS.alloc own2 (.cells #[rowV (b9, d9, rl)] 23)
      have o11 := Own.alloc o10 (.cells #[rowV (b9, d9, rl)] 23)
      have OO : OwnC (wz.alloc (.cells #[rowV (b9, d9, rl)] 23)) w4'.heap.size c3 k d3 23 1 (rs'.map rowV) := own3.out
      have szz : w4'.heap.size ≤ (wz.alloc (.cells #[rowV (b9, d9, rl)] 23)).heap.size := by have := u9.size; simp at *; omega
      refine step_appSS (by rfl) _ _ (by rfl) w4'.heap.size c3 k d3 (rs'.map rowV) (by rfl) OO _ 1 1 [rowV (b9, d9, rl)] (by rfl) LIT (by simp [rowV, Value.oneCell']) (by omega) szz ?_
      intro a7 c7 w7 oc u7 g7 m7
      have Ng : w.heap.size + 2 ∉ foot c3 d3 := fun hq => by have := (own.feet _ (List.mem_append_left _ hq)).1; omega
      have B_b7 := Blk.only (Blk.alloc B_b9 (.cells #[rowV (b9, d9, rl)] 23)) (Only.of_grown g7) Ng
      have j8 := B_b7.cell 8
      have f8 := B_b7.frozen 8
      refine hK.out _ _ ?_ (fun hHeld => ?_)
      · trivial
      clear hK K
      (try simp only [Act.put, List.setIfInBounds_toArray, List.set_cons_zero, List.set_cons_succ])
      refine wpAnyH_take (i := 6) (oi := { dst := some 30, op := _, type := _, pos := _, after := _, guard := _ }) (v := ?v6_6) rfl (by kernel_rfl) (by kernel_rfl) (by kernel_rfl) (fun _ _ _ h => h) (Or.inl ⟨by rfl, ?hy6_6⟩) hHeld ?rest6_6
      case hy6_6 => (intro w _; first | (go_simp; done) | (go_simp; with_reducible rfl) | (with_reducible rfl))
      (try simp only [Act.put, List.setIfInBounds_toArray, List.set_cons_zero, List.set_cons_succ])
      refine wpAnyH_ready (rs := [7]) (by kernel_rfl) (by simp) ?_
      refine AllReadyH.cons (o := { dst := none, op := _, type := _, pos := _, after := _, guard := _ }) rfl (fun K hK => ?_) ?_
      go_simp
      refine hK.out _ _ ?_ (fun hHeld => ?_)
      · trivial
      clear hK K
      (try simp only [Act.put, List.setIfInBounds_toArray, List.set_cons_zero, List.set_cons_succ])
      refine wpAnyH_done (by kernel_rfl) ?_ _
      refine NoPanic.normal ?_
      rotate_left 1
      exact AllReadyH.nil
      exact AllReadyH.nil
      exact AllReadyH.nil
      exact AllReadyH.nil
      exact AllReadyH.nil
      all_goals
        have own4 := own3.push (r := (b9, d9, rl)) o11 hdj oc g7 m7
        have uA : Below wr.heap.size wr wz := (Below.refl _ _).drew.trans u9
        have QR := Lib.hid own.feet
        have hd5 := Lib.hid ((show datas' (rs' ++ [(b9, d9, rl)]) = a.heard.take (k + 1) by rw [HE.out, ← hd4.out]; simp [datas']))
        have SLz := SL
        clear own own2 o9 o10 o11 own3 oc u9 m7 hdj LIT OO szz B_b9 B_b7 h8 h8A j8 f8 c0 inn
        clear e_b_8
        replace B_a := B_a.below uA
        replace B_r := B_r.below uA
        replace B_b := B_b.below uA
        replace o5 := o5.below uA
        replace o6 := o6.below uA
        have S_wz := uA.size
        have V_wz : Below w.heap.size w wz := V_wr.trans (uA.mono V_wr.size)
        clear V_wr
        clear uA
        have V_w5'_1 : Below w.heap.size w (wz.alloc (.cells #[.slice b9 rl.length d9] 23)) := (V_wz).alloc (by have := (V_wz).size; first | exact this | (simp at *; omega)) _
        replace B_a := B_a.alloc (.cells #[.slice b9 rl.length d9] 23)
        replace B_r := B_r.alloc (.cells #[.slice b9 rl.length d9] 23)
        replace B_b := B_b.alloc (.cells #[.slice b9 rl.length d9] 23)
        replace o5 := o5.alloc (.cells #[.slice b9 rl.length d9] 23)
        replace o6 := o6.alloc (.cells #[.slice b9 rl.length d9] 23)
        have B_z : Blk (wz.alloc (.cells #[.slice b9 rl.length d9] 23)) (wz.heap.size) 23 #[.slice b9 rl.length d9] := by exact Blk.new wz 23 #[.slice b9 rl.length d9]
        have S_w5' : wz.heap.size + 1 ≤ (wz.alloc (.cells #[.slice b9 rl.length d9] 23)).heap.size := by first | (simp; done) | (simp; omega) | (simp [World.setCell]; done) | (simp [World.setCell]; omega)
        generalize (wz.alloc (.cells #[.slice b9 rl.length d9] 23)) = w5' at *
        have V_w5' : Below w.heap.size w w5' := V_w5'_1
        clear V_wz
        clear V_w5'_1
        clear B_z
        have oG := Only.of_grown g7
        have V_w7 : Below w.heap.size w w7 := V_w5'.trans (u7.mono (show w.heap.size ≤ w4'.heap.size by omega))
        have NN : ∀ q, q ∈ foot c3 d3 → w4'.heap.size ≤ q := fun q hq => (QR.out q (List.mem_append_left _ hq)).1
        replace B_a := Blk.only B_a oG (fun hq => by have := NN _ hq; omega)
        replace B_r := Blk.only B_r oG (fun hq => by have := NN _ hq; omega)
        replace B_b := Blk.only B_b oG (fun hq => by have := NN _ hq; omega)
        replace o5 := OwnF.only o5 oG (fun q hq hq' => by have := NN _ hq'; have := R5.out _ hq; omega)
        replace o6 := o6.only oG (fun q hq hq' => by have := NN _ hq'; have := R6.out _ hq; omega)
        have SLw := oG.size
        clear oG u7 g7 NN
        have Q_own4 := Lib.hid own4.feet
        have G_1 : Only [w.heap.size + 2] w7 (w7.setCell ⟨w.heap.size + 2, 8, none⟩ (.slice a7 (k + 1) c7)) := (Only.refl _ _).setCell ⟨w.heap.size + 2, 8, none⟩ _ (by simp)
        have V_w6'_1 : Below w.heap.size w (w7.setCell ⟨w.heap.size + 2, 8, none⟩ (.slice a7 (k + 1) c7)) := (V_w7).trans (G_1.below (V_w7).size (fun q hq => by have := (V_w7).size; simp at hq; omega))
        replace B_a := B_a.only G_1 (by first | (simp; done) | (simp; omega))
        replace B_r := B_r.only G_1 (by first | (simp; done) | (simp; omega))
        replace B_b : Blk (w7.setCell ⟨w.heap.size + 2, 8, none⟩ (.slice a7 (k + 1) c7)) (w.heap.size + 2) 31 #[.int .i64 a.P, .int .i64 a.party, .int .i64 a.input, .int .i64 a.mask, .int .i64 a.delta, .slice b5 5 d5, .slice b6 5 d6, .int .i64 a.step, .slice a7 (k + 1) c7, .int .i64 a.status, .int .i64 a.out] := B_b.set_ 8 (.slice a7 (k + 1) c7)
        replace o5 := o5.only G_1 (fun q hq hq' => by have := Q_o5.out q hq; simp at hq'; omega)
        replace o6 := o6.only G_1 (fun q hq hq' => by have := Q_o6.out q hq; simp at hq'; omega)
        replace own4 := own4.only G_1 (fun q hq hq' => by have := Q_own4.out q hq; simp at hq'; omega)
        clear G_1
        have S_w6' : w7.heap.size + 0 ≤ (w7.setCell ⟨w.heap.size + 2, 8, none⟩ (.slice a7 (k + 1) c7)).heap.size := by first | (simp; done) | (simp; omega) | (simp [World.setCell]; done) | (simp [World.setCell]; omega)
        generalize (w7.setCell ⟨w.heap.size + 2, 8, none⟩ (.slice a7 (k + 1) c7)) = w6' at *
        have V_w6' : Below w.heap.size w w6' := V_w6'_1
        clear V_w7
        clear V_w6'_1
        go_wp2
        go_roundw
        case rel => exact ⟨k + 1, by omega, by go_num, V_w6', B_a, B_r, o5, o6, by omega, a7, c7, _, B_b, own4, hd5.out⟩
        case measure => simp [intOf]; omega
    · obtain rfl : x_hn = k := by omega
      have QQ := Lib.hid own.feet
      have hdd : datas' rs' = a.heard := by rw [hd3, ← HL.out, List.take_length]
      replace hdd := Lib.hid hdd
      have E1 : Disj (foot b5 d5) (feetSS c3 d3 rs') := Disj.of_rng R5.out own.feet (Or.inl (Nat.le_refl _))
      have E2 : Disj (foot b6 d6) (feetSS c3 d3 rs') := Disj.of_rng R6.out own.feet (Or.inl (Nat.le_refl _))
      replace own := own.lower (b' := w.heap.size + 3) LL
      have Q_own := Lib.hid own.feet
      clear hd3
      have e_b_0 : wr.cell? ⟨w.heap.size + 2, 0, none⟩ = some (.int .i64 a.P) := B_b.cell 0
      have f_b_0 : wr.frozen? ⟨w.heap.size + 2, 0, none⟩ = false := B_b.frozen 0
      have e_b_1 : wr.cell? ⟨w.heap.size + 2, 1, none⟩ = some (.int .i64 a.party) := B_b.cell 1
      have f_b_1 : wr.frozen? ⟨w.heap.size + 2, 1, none⟩ = false := B_b.frozen 1
      have e_b_2 : wr.cell? ⟨w.heap.size + 2, 2, none⟩ = some (.int .i64 a.input) := B_b.cell 2
      have f_b_2 : wr.frozen? ⟨w.heap.size + 2, 2, none⟩ = false := B_b.frozen 2
      have e_b_3 : wr.cell? ⟨w.heap.size + 2, 3, none⟩ = some (.int .i64 a.mask) := B_b.cell 3
      have f_b_3 : wr.frozen? ⟨w.heap.size + 2, 3, none⟩ = false := B_b.frozen 3
      have e_b_4 : wr.cell? ⟨w.heap.size + 2, 4, none⟩ = some (.int .i64 a.delta) := B_b.cell 4
      have f_b_4 : wr.frozen? ⟨w.heap.size + 2, 4, none⟩ = false := B_b.frozen 4
      have e_b_5 : wr.cell? ⟨w.heap.size + 2, 5, none⟩ = some (.slice b5 5 d5) := B_b.cell 5
      have f_b_5 : wr.frozen? ⟨w.heap.size + 2, 5, none⟩ = false := B_b.frozen 5
      have e_b_6 : wr.cell? ⟨w.heap.size + 2, 6, none⟩ = some (.slice b6 5 d6) := B_b.cell 6
      have f_b_6 : wr.frozen? ⟨w.heap.size + 2, 6, none⟩ = false := B_b.frozen 6
      have e_b_7 : wr.cell? ⟨w.heap.size + 2, 7, none⟩ = some (.int .i64 a.step) := B_b.cell 7
      have f_b_7 : wr.frozen? ⟨w.heap.size + 2, 7, none⟩ = false := B_b.frozen 7
      have e_b_8 : wr.cell? ⟨w.heap.size + 2, 8, none⟩ = some (.slice c3 x_hn d3) := B_b.cell 8
      have f_b_8 : wr.frozen? ⟨w.heap.size + 2, 8, none⟩ = false := B_b.frozen 8
      have e_b_9 : wr.cell? ⟨w.heap.size + 2, 9, none⟩ = some (.int .i64 a.status) := B_b.cell 9
      have f_b_9 : wr.frozen? ⟨w.heap.size + 2, 9, none⟩ = false := B_b.frozen 9
      have e_b_10 : wr.cell? ⟨w.heap.size + 2, 10, none⟩ = some (.int .i64 a.out) := B_b.cell 10
      have f_b_10 : wr.frozen? ⟨w.heap.size + 2, 10, none⟩ = false := B_b.frozen 10
      have e_r_0 : wr.cell? ⟨w.heap.size + 1, 0, none⟩ = some (.int .i64 0) := B_r.cell 0
      have f_r_0 : wr.frozen? ⟨w.heap.size + 1, 0, none⟩ = false := B_r.frozen 0
      have e_r_1 : wr.cell? ⟨w.heap.size + 1, 1, none⟩ = some (.int .i64 0) := B_r.cell 1
      have f_r_1 : wr.frozen? ⟨w.heap.size + 1, 1, none⟩ = false := B_r.frozen 1
      have e_r_2 : wr.cell? ⟨w.heap.size + 1, 2, none⟩ = some (.int .i64 0) := B_r.cell 2
      have f_r_2 : wr.frozen? ⟨w.heap.size + 1, 2, none⟩ = false := B_r.frozen 2
      have e_r_3 : wr.cell? ⟨w.heap.size + 1, 3, none⟩ = some (.int .i64 0) := B_r.cell 3
      have f_r_3 : wr.frozen? ⟨w.heap.size + 1, 3, none⟩ = false := B_r.frozen 3
      have e_r_4 : wr.cell? ⟨w.heap.size + 1, 4, none⟩ = some (.int .i64 0) := B_r.cell 4
      have f_r_4 : wr.frozen? ⟨w.heap.size + 1, 4, none⟩ = false := B_r.frozen 4
      have e_r_5 : wr.cell? ⟨w.heap.size + 1, 5, none⟩ = some (.slice none 0 0) := B_r.cell 5
      have f_r_5 : wr.frozen? ⟨w.heap.size + 1, 5, none⟩ = false := B_r.frozen 5
      have e_r_6 : wr.cell? ⟨w.heap.size + 1, 6, none⟩ = some (.slice none 0 0) := B_r.cell 6
      have f_r_6 : wr.frozen? ⟨w.heap.size + 1, 6, none⟩ = false := B_r.frozen 6
      have e_r_7 : wr.cell? ⟨w.heap.size + 1, 7, none⟩ = some (.int .i64 0) := B_r.cell 7
      have f_r_7 : wr.frozen? ⟨w.heap.size + 1, 7, none⟩ = false := B_r.frozen 7
      have e_r_8 : wr.cell? ⟨w.heap.size + 1, 8, none⟩ = some (.slice none 0 0) := B_r.cell 8
      have f_r_8 : wr.frozen? ⟨w.heap.size + 1, 8, none⟩ = false := B_r.frozen 8
      have e_r_9 : wr.cell? ⟨w.heap.size + 1, 9, none⟩ = some (.int .i64 0) := B_r.cell 9
      have f_r_9 : wr.frozen? ⟨w.heap.size + 1, 9, none⟩ = false := B_r.frozen 9
      have e_r_10 : wr.cell? ⟨w.heap.size + 1, 10, none⟩ = some (.int .i64 0) := B_r.cell 10
      have f_r_10 : wr.frozen? ⟨w.heap.size + 1, 10, none⟩ = false := B_r.frozen 10
      go_wp2
      clear e_b_0 f_b_0 e_b_1 f_b_1 e_b_2 f_b_2 e_b_3 f_b_3 e_b_4 f_b_4 e_b_5 f_b_5 e_b_6 f_b_6 e_b_7 f_b_7 e_b_8 f_b_8 e_b_9 f_b_9 e_b_10 f_b_10 e_r_0 f_r_0 e_r_1 f_r_1 e_r_2 f_r_2 e_r_3 f_r_3 e_r_4 f_r_4 e_r_5 f_r_5 e_r_6 f_r_6 e_r_7 f_r_7 e_r_8 f_r_8 e_r_9 f_r_9 e_r_10 f_r_10
      have g_1 : Only [w.heap.size + 1] wr (wr.setCell ⟨w.heap.size + 1, 0, none⟩ (.int .i64 a.P)) := (Only.refl _ _).setCell _ _ (by simp)
      replace B_r := B_r.set_ 0 (.int .i64 a.P)
      generalize wr.setCell ⟨w.heap.size + 1, 0, none⟩ (.int .i64 a.P) = w7_1' at *
      have G := g_1
      clear g_1
      have g_2 : Only [w.heap.size + 1] w7_1' (w7_1'.setCell ⟨w.heap.size + 1, 1, none⟩ (.int .i64 a.party)) := (Only.refl _ _).setCell _ _ (by simp)
      replace B_r := B_r.set_ 1 (.int .i64 a.party)
      generalize w7_1'.setCell ⟨w.heap.size + 1, 1, none⟩ (.int .i64 a.party) = w7_2' at *
      replace G := G.trans g_2
      clear g_2
      have g_3 : Only [w.heap.size + 1] w7_2' (w7_2'.setCell ⟨w.heap.size + 1, 2, none⟩ (.int .i64 a.input)) := (Only.refl _ _).setCell _ _ (by simp)
      replace B_r := B_r.set_ 2 (.int .i64 a.input)
      generalize w7_2'.setCell ⟨w.heap.size + 1, 2, none⟩ (.int .i64 a.input) = w7_3' at *
      replace G := G.trans g_3
      clear g_3
      have g_4 : Only [w.heap.size + 1] w7_3' (w7_3'.setCell ⟨w.heap.size + 1, 3, none⟩ (.int .i64 a.mask)) := (Only.refl _ _).setCell _ _ (by simp)
      replace B_r := B_r.set_ 3 (.int .i64 a.mask)
      generalize w7_3'.setCell ⟨w.heap.size + 1, 3, none⟩ (.int .i64 a.mask) = w7_4' at *
      replace G := G.trans g_4
      clear g_4
      have g_5 : Only [w.heap.size + 1] w7_4' (w7_4'.setCell ⟨w.heap.size + 1, 4, none⟩ (.int .i64 a.delta)) := (Only.refl _ _).setCell _ _ (by simp)
      replace B_r := B_r.set_ 4 (.int .i64 a.delta)
      generalize w7_4'.setCell ⟨w.heap.size + 1, 4, none⟩ (.int .i64 a.delta) = w7_5' at *
      replace G := G.trans g_5
      clear g_5
      have g_6 : Only [w.heap.size + 1] w7_5' (w7_5'.setCell ⟨w.heap.size + 1, 5, none⟩ (.slice b5 5 d5)) := (Only.refl _ _).setCell _ _ (by simp)
      replace B_r := B_r.set_ 5 (.slice b5 5 d5)
      generalize w7_5'.setCell ⟨w.heap.size + 1, 5, none⟩ (.slice b5 5 d5) = w7_6' at *
      replace G := G.trans g_6
      clear g_6
      have g_7 : Only [w.heap.size + 1] w7_6' (w7_6'.setCell ⟨w.heap.size + 1, 6, none⟩ (.slice b6 5 d6)) := (Only.refl _ _).setCell _ _ (by simp)
      replace B_r := B_r.set_ 6 (.slice b6 5 d6)
      generalize w7_6'.setCell ⟨w.heap.size + 1, 6, none⟩ (.slice b6 5 d6) = w7_7' at *
      replace G := G.trans g_7
      clear g_7
      have g_8 : Only [w.heap.size + 1] w7_7' (w7_7'.setCell ⟨w.heap.size + 1, 7, none⟩ (.int .i64 a.step)) := (Only.refl _ _).setCell _ _ (by simp)
      replace B_r := B_r.set_ 7 (.int .i64 a.step)
      generalize w7_7'.setCell ⟨w.heap.size + 1, 7, none⟩ (.int .i64 a.step) = w7_8' at *
      replace G := G.trans g_8
      clear g_8
      have g_9 : Only [w.heap.size + 1] w7_8' (w7_8'.setCell ⟨w.heap.size + 1, 8, none⟩ (.slice c3 x_hn d3)) := (Only.refl _ _).setCell _ _ (by simp)
      replace B_r := B_r.set_ 8 (.slice c3 x_hn d3)
      generalize w7_8'.setCell ⟨w.heap.size + 1, 8, none⟩ (.slice c3 x_hn d3) = w7_9' at *
      replace G := G.trans g_9
      clear g_9
      have g_10 : Only [w.heap.size + 1] w7_9' (w7_9'.setCell ⟨w.heap.size + 1, 9, none⟩ (.int .i64 a.status)) := (Only.refl _ _).setCell _ _ (by simp)
      replace B_r := B_r.set_ 9 (.int .i64 a.status)
      generalize w7_9'.setCell ⟨w.heap.size + 1, 9, none⟩ (.int .i64 a.status) = w7_10' at *
      replace G := G.trans g_10
      clear g_10
      have g_11 : Only [w.heap.size + 1] w7_10' (w7_10'.setCell ⟨w.heap.size + 1, 10, none⟩ (.int .i64 a.out)) := (Only.refl _ _).setCell _ _ (by simp)
      replace B_r := B_r.set_ 10 (.int .i64 a.out)
      generalize w7_10'.setCell ⟨w.heap.size + 1, 10, none⟩ (.int .i64 a.out) = w7' at *
      replace G := G.trans g_11
      clear g_11
      simp only [List.setIfInBounds_toArray, List.set_cons_zero, List.set_cons_succ] at B_r
      have V_w7' : Below w.heap.size w w7' := (V_wr).trans (G.below (V_wr).size (fun q hq => by have := (V_wr).size; simp at hq; omega))
      replace B_a := B_a.only G (by first | (simp; done) | (simp; omega))
      replace B_b := B_b.only G (by first | (simp; done) | (simp; omega))
      replace o5 := o5.only G (fun q hq hq' => by have := Q_o5.out q hq; simp at hq'; omega)
      replace o6 := o6.only G (fun q hq hq' => by have := Q_o6.out q hq; simp at hq'; omega)
      replace own := own.only G (fun q hq hq' => by have := Q_own.out q hq; simp at hq'; omega)
      have sG0 := G.size
      clear G
      clear V_wr
      have S_w7' : wr.heap.size + 0 ≤ w7'.heap.size := by omega
      clear sG0
      have e_r_0 : w7'.cell? ⟨w.heap.size + 1, 0, none⟩ = some (.int .i64 a.P) := B_r.cell 0
      have e_r_1 : w7'.cell? ⟨w.heap.size + 1, 1, none⟩ = some (.int .i64 a.party) := B_r.cell 1
      have e_r_2 : w7'.cell? ⟨w.heap.size + 1, 2, none⟩ = some (.int .i64 a.input) := B_r.cell 2
      have e_r_3 : w7'.cell? ⟨w.heap.size + 1, 3, none⟩ = some (.int .i64 a.mask) := B_r.cell 3
      have e_r_4 : w7'.cell? ⟨w.heap.size + 1, 4, none⟩ = some (.int .i64 a.delta) := B_r.cell 4
      have e_r_5 : w7'.cell? ⟨w.heap.size + 1, 5, none⟩ = some (.slice b5 5 d5) := B_r.cell 5
      have e_r_6 : w7'.cell? ⟨w.heap.size + 1, 6, none⟩ = some (.slice b6 5 d6) := B_r.cell 6
      have e_r_7 : w7'.cell? ⟨w.heap.size + 1, 7, none⟩ = some (.int .i64 a.step) := B_r.cell 7
      have e_r_8 : w7'.cell? ⟨w.heap.size + 1, 8, none⟩ = some (.slice c3 x_hn d3) := B_r.cell 8
      have e_r_9 : w7'.cell? ⟨w.heap.size + 1, 9, none⟩ = some (.int .i64 a.status) := B_r.cell 9
      have e_r_10 : w7'.cell? ⟨w.heap.size + 1, 10, none⟩ = some (.int .i64 a.out) := B_r.cell 10
      exact bodyPost_ret (v := .agg #[.int .i64 a.P, .int .i64 a.party, .int .i64 a.input, .int .i64 a.mask, .int .i64 a.delta, .slice b5 5 d5, .slice b6 5 d6, .int .i64 a.step, .slice c3 x_hn d3, .int .i64 a.status, .int .i64 a.out]) (by simp [results, Tryd.results90, go_sem, e_r_0, e_r_1, e_r_2, e_r_3, e_r_4, e_r_5, e_r_6, e_r_7, e_r_8, e_r_9, e_r_10]) rfl ⟨⟨b5, 5, d5, b6, 5, d6, c3, x_hn, d3⟩, _, rfl, ⟨OwnF.lower o5 (by omega), o6.lower (by omega), rs', own.lower (by omega), hdd.out, D56, E1, E2, rfl⟩, V_w7'⟩
end Go.Proofs.YtlmdckcohoddnaaDoor
