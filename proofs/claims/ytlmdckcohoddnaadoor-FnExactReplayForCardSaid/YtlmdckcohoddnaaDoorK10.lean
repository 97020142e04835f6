/- Lemmas and walks that the claim's proof rests on, part 10. -/
import Derived.Test.YtlmdckcohoddnaaDoorK8
namespace Go.Proofs.YtlmdckcohoddnaaDoor
open Go.RowKit
set_option maxHeartbeats 16000000 in
set_option maxRecDepth 100000 in
theorem take_end (a : Pl) (x : PlX) (fr st : Int) (b : Option Addr) (n c : Nat) (body : List Int) (w : World) (h : PlR w x a.shares a.keys a.heard) (hM : Ints w b n c body) (hT : Tbl w) (hN : PlN a) (hs : a.step ≤ 2) (hacc : accB a fr st body = true) (h2 : a.step = 2) :
    Calls Tryd.prog 92 #[.agg #[.int .i64 a.P, .int .i64 a.party, .int .i64 a.input, .int .i64 a.mask, .int .i64 a.delta, .slice x.sa x.sn x.sc, .slice x.ka x.kn x.kc, .int .i64 a.step, .slice x.ha x.hn x.hc, .int .i64 a.status, .int .i64 a.out], .agg #[.int .i64 fr, .int .i64 st, .slice b n c]] w fun e w' => ∃ y F, e = .returned (.agg #[.int .i64 a.P, .int .i64 a.party, .int .i64 a.input, .int .i64 a.mask, .int .i64 a.delta, .slice y.sa y.sn y.sc, .slice y.ka y.kn y.kc, .int .i64 (a.step + 1), .slice y.ha y.hn y.hc, .int .i64 1, .int .i64 ((thV a + body.getD 0 0) % a.P)]) ∧ PlO w' w.heap.size y a.shares a.keys (a.heard ++ [body]) F ∧ Below w.heap.size w w' := by
  have hnb := hM.len
  subst hnb
  obtain ⟨hbl, hbr⟩ := acc_parts hacc
  have CA := Lib.hid (fun (W : World) (h2 : PlR W x a.shares a.keys a.heard) (h3 : Ints W b body.length c body) (h4 : Tbl W) => accepts_any a x fr st b body.length c body W h2 h3 h4 hN hs)
  rw [hacc] at CA
  have CP := Lib.hid (fun (W : World) (h2 : PlR W x a.shares a.keys a.heard) => copyPlayer_any a x W h2 hN)
  have LH := Lib.hid h
  have LM := Lib.hid hM
  have LX := Lib.hid hT
  have hst := hN.stp
  have hn4 : body.length ≤ 10000000 := by rw [hbl]; have := (blen_bd a.step.toNat).2; omega
  have t1 : IntKind.i64.wrap (a.step + 1) = a.step + 1 := IntWalk.i64_in _ (by omega)
  have hhl := hN.hl
  have hp1 := hN.p1
  have hp2 := hN.p2
  have hb2 : body.length = 2 := by rw [hbl, h2]; rfl
  obtain ⟨gm, om, hbm, hcm⟩ := hM.at 0 (by omega)
  subst hbm
  have hb0 := hbr _ (getD_mem body 0 (by omega))
  have hth : 0 ≤ thV a ∧ thV a ≤ a.P - 1 := cmb_rng _ _ _ _ _ _ _ _ (by omega)
  have t2 : IntKind.i64.wrap (thV a + body.getD 0 0) = thV a + body.getD 0 0 := IntWalk.i64_in _ (by omega)
  have CB := Lib.hid (fun (W : World) (h3 : PlR W x a.shares a.keys a.heard) => body_2 a x W h3 hN h2)
  have d1 : ((a.step == 2) : Bool) = true := by simpa using h2
  have hgm := World.block_lt_of_cell? w _ hcm
  have hlt0 : (0 : Int) < (body.length : Int) := by omega
  have hlt1 : 0 < body.length := by omega
  generalize thV a = th at *
  generalize body.getD 0 0 = b0 at *
  simp only [Nat.add_zero] at hcm
  replace hb2 := Lib.hid hb2
  have hst2 : a.step ≤ 2 := by omega
  replace h2 := Lib.hid h2
  clear h hM hT hs hN hacc hbl hbr
  go_enter Tryd.func92, Tryd.ntmps92
  go_wp2_with fail
  have V_w1'_1 : Below w.heap.size w (w.alloc (.cells #[.int .i64 a.P, .int .i64 a.party, .int .i64 a.input, .int .i64 a.mask, .int .i64 a.delta, .slice x.sa x.sn x.sc, .slice x.ka x.kn x.kc, .int .i64 a.step, .slice x.ha x.hn x.hc, .int .i64 a.status, .int .i64 a.out] 31)) := ((Below.refl w.heap.size w)).alloc (by have := ((Below.refl w.heap.size w)).size; first | exact this | (simp at *; omega)) _
  have B_a : Blk (w.alloc (.cells #[.int .i64 a.P, .int .i64 a.party, .int .i64 a.input, .int .i64 a.mask, .int .i64 a.delta, .slice x.sa x.sn x.sc, .slice x.ka x.kn x.kc, .int .i64 a.step, .slice x.ha x.hn x.hc, .int .i64 a.status, .int .i64 a.out] 31)) (w.heap.size) 31 #[.int .i64 a.P, .int .i64 a.party, .int .i64 a.input, .int .i64 a.mask, .int .i64 a.delta, .slice x.sa x.sn x.sc, .slice x.ka x.kn x.kc, .int .i64 a.step, .slice x.ha x.hn x.hc, .int .i64 a.status, .int .i64 a.out] := by exact Blk.new w 31 #[.int .i64 a.P, .int .i64 a.party, .int .i64 a.input, .int .i64 a.mask, .int .i64 a.delta, .slice x.sa x.sn x.sc, .slice x.ka x.kn x.kc, .int .i64 a.step, .slice x.ha x.hn x.hc, .int .i64 a.status, .int .i64 a.out]
  have V_w1'_2 : Below w.heap.size w ((w.alloc (.cells #[.int .i64 a.P, .int .i64 a.party, .int .i64 a.input, .int .i64 a.mask, .int .i64 a.delta, .slice x.sa x.sn x.sc, .slice x.ka x.kn x.kc, .int .i64 a.step, .slice x.ha x.hn x.hc, .int .i64 a.status, .int .i64 a.out] 31)).alloc (.cells #[.int .i64 fr, .int .i64 st, .slice (some ⟨gm, om, none⟩) body.length c] 44)) := (V_w1'_1).alloc (by have := (V_w1'_1).size; first | exact this | (simp at *; omega)) _
  replace B_a := B_a.alloc (.cells #[.int .i64 fr, .int .i64 st, .slice (some ⟨gm, om, none⟩) body.length c] 44)
  have B_m : Blk ((w.alloc (.cells #[.int .i64 a.P, .int .i64 a.party, .int .i64 a.input, .int .i64 a.mask, .int .i64 a.delta, .slice x.sa x.sn x.sc, .slice x.ka x.kn x.kc, .int .i64 a.step, .slice x.ha x.hn x.hc, .int .i64 a.status, .int .i64 a.out] 31)).alloc (.cells #[.int .i64 fr, .int .i64 st, .slice (some ⟨gm, om, none⟩) body.length c] 44)) (w.heap.size + 1) 44 #[.int .i64 fr, .int .i64 st, .slice (some ⟨gm, om, none⟩) body.length c] := by simpa [World.setCell] using (Blk.new (w.alloc (.cells #[.int .i64 a.P, .int .i64 a.party, .int .i64 a.input, .int .i64 a.mask, .int .i64 a.delta, .slice x.sa x.sn x.sc, .slice x.ka x.kn x.kc, .int .i64 a.step, .slice x.ha x.hn x.hc, .int .i64 a.status, .int .i64 a.out] 31)) 44 #[.int .i64 fr, .int .i64 st, .slice (some ⟨gm, om, none⟩) body.length c])
  have V_w1'_3 : Below w.heap.size w (((w.alloc (.cells #[.int .i64 a.P, .int .i64 a.party, .int .i64 a.input, .int .i64 a.mask, .int .i64 a.delta, .slice x.sa x.sn x.sc, .slice x.ka x.kn x.kc, .int .i64 a.step, .slice x.ha x.hn x.hc, .int .i64 a.status, .int .i64 a.out] 31)).alloc (.cells #[.int .i64 fr, .int .i64 st, .slice (some ⟨gm, om, none⟩) body.length c] 44)).alloc (.cells #[.int .i64 0, .int .i64 0, .int .i64 0, .int .i64 0, .int .i64 0, .slice none 0 0, .slice none 0 0, .int .i64 0, .slice none 0 0, .int .i64 0, .int .i64 0] 31)) := (V_w1'_2).alloc (by have := (V_w1'_2).size; first | exact this | (simp at *; omega)) _
  replace B_a := B_a.alloc (.cells #[.int .i64 0, .int .i64 0, .int .i64 0, .int .i64 0, .int .i64 0, .slice none 0 0, .slice none 0 0, .int .i64 0, .slice none 0 0, .int .i64 0, .int .i64 0] 31)
  replace B_m := B_m.alloc (.cells #[.int .i64 0, .int .i64 0, .int .i64 0, .int .i64 0, .int .i64 0, .slice none 0 0, .slice none 0 0, .int .i64 0, .slice none 0 0, .int .i64 0, .int .i64 0] 31)
  have B_r : Blk (((w.alloc (.cells #[.int .i64 a.P, .int .i64 a.party, .int .i64 a.input, .int .i64 a.mask, .int .i64 a.delta, .slice x.sa x.sn x.sc, .slice x.ka x.kn x.kc, .int .i64 a.step, .slice x.ha x.hn x.hc, .int .i64 a.status, .int .i64 a.out] 31)).alloc (.cells #[.int .i64 fr, .int .i64 st, .slice (some ⟨gm, om, none⟩) body.length c] 44)).alloc (.cells #[.int .i64 0, .int .i64 0, .int .i64 0, .int .i64 0, .int .i64 0, .slice none 0 0, .slice none 0 0, .int .i64 0, .slice none 0 0, .int .i64 0, .int .i64 0] 31)) (w.heap.size + 2) 31 #[.int .i64 0, .int .i64 0, .int .i64 0, .int .i64 0, .int .i64 0, .slice none 0 0, .slice none 0 0, .int .i64 0, .slice none 0 0, .int .i64 0, .int .i64 0] := by simpa [World.setCell] using (Blk.new ((w.alloc (.cells #[.int .i64 a.P, .int .i64 a.party, .int .i64 a.input, .int .i64 a.mask, .int .i64 a.delta, .slice x.sa x.sn x.sc, .slice x.ka x.kn x.kc, .int .i64 a.step, .slice x.ha x.hn x.hc, .int .i64 a.status, .int .i64 a.out] 31)).alloc (.cells #[.int .i64 fr, .int .i64 st, .slice (some ⟨gm, om, none⟩) body.length c] 44)) 31 #[.int .i64 0, .int .i64 0, .int .i64 0, .int .i64 0, .int .i64 0, .slice none 0 0, .slice none 0 0, .int .i64 0, .slice none 0 0, .int .i64 0, .int .i64 0])
  have S_w1' : w.heap.size + 3 ≤ (((w.alloc (.cells #[.int .i64 a.P, .int .i64 a.party, .int .i64 a.input, .int .i64 a.mask, .int .i64 a.delta, .slice x.sa x.sn x.sc, .slice x.ka x.kn x.kc, .int .i64 a.step, .slice x.ha x.hn x.hc, .int .i64 a.status, .int .i64 a.out] 31)).alloc (.cells #[.int .i64 fr, .int .i64 st, .slice (some ⟨gm, om, none⟩) body.length c] 44)).alloc (.cells #[.int .i64 0, .int .i64 0, .int .i64 0, .int .i64 0, .int .i64 0, .slice none 0 0, .slice none 0 0, .int .i64 0, .slice none 0 0, .int .i64 0, .int .i64 0] 31)).heap.size := by first | (simp; done) | (simp; omega) | (simp [World.setCell]; done) | (simp [World.setCell]; omega)
  generalize (((w.alloc (.cells #[.int .i64 a.P, .int .i64 a.party, .int .i64 a.input, .int .i64 a.mask, .int .i64 a.delta, .slice x.sa x.sn x.sc, .slice x.ka x.kn x.kc, .int .i64 a.step, .slice x.ha x.hn x.hc, .int .i64 a.status, .int .i64 a.out] 31)).alloc (.cells #[.int .i64 fr, .int .i64 st, .slice (some ⟨gm, om, none⟩) body.length c] 44)).alloc (.cells #[.int .i64 0, .int .i64 0, .int .i64 0, .int .i64 0, .int .i64 0, .slice none 0 0, .slice none 0 0, .int .i64 0, .slice none 0 0, .int .i64 0, .int .i64 0] 31)) = w1' at *
  clear V_w1'_1 V_w1'_2
  have V_w1' : Below w.heap.size w w1' := V_w1'_3
  clear V_w1'_3
  refine (CP.out _ (LH.out.below V_w1')).mono ?_
  rintro e w2' ⟨y, F, rfl, o, u_w2'⟩
  replace B_a := B_a.below u_w2'
  replace B_m := B_m.below u_w2'
  replace B_r := B_r.below u_w2'
  have S_w2' := u_w2'.size
  have V_w2' : Below w.heap.size w w2' := V_w1'.trans (u_w2'.mono V_w1'.size)
  clear V_w1'
  clear u_w2'
  replace o := o.lower (b' := w.heap.size + 3) S_w1'
  have Q_o := Lib.hid o.feet
  go_upto_region 2 with fail
  have V_w3'_1 : Below w.heap.size w (w2'.alloc (.cells #[.int .i64 a.P, .int .i64 a.party, .int .i64 a.input, .int .i64 a.mask, .int .i64 a.delta, .slice y.sa y.sn y.sc, .slice y.ka y.kn y.kc, .int .i64 a.step, .slice y.ha y.hn y.hc, .int .i64 a.status, .int .i64 a.out] 31)) := (V_w2').alloc (by have := (V_w2').size; first | exact this | (simp at *; omega)) _
  replace B_a := B_a.alloc (.cells #[.int .i64 a.P, .int .i64 a.party, .int .i64 a.input, .int .i64 a.mask, .int .i64 a.delta, .slice y.sa y.sn y.sc, .slice y.ka y.kn y.kc, .int .i64 a.step, .slice y.ha y.hn y.hc, .int .i64 a.status, .int .i64 a.out] 31)
  replace B_m := B_m.alloc (.cells #[.int .i64 a.P, .int .i64 a.party, .int .i64 a.input, .int .i64 a.mask, .int .i64 a.delta, .slice y.sa y.sn y.sc, .slice y.ka y.kn y.kc, .int .i64 a.step, .slice y.ha y.hn y.hc, .int .i64 a.status, .int .i64 a.out] 31)
  replace B_r := B_r.alloc (.cells #[.int .i64 a.P, .int .i64 a.party, .int .i64 a.input, .int .i64 a.mask, .int .i64 a.delta, .slice y.sa y.sn y.sc, .slice y.ka y.kn y.kc, .int .i64 a.step, .slice y.ha y.hn y.hc, .int .i64 a.status, .int .i64 a.out] 31)
  replace o := o.alloc (.cells #[.int .i64 a.P, .int .i64 a.party, .int .i64 a.input, .int .i64 a.mask, .int .i64 a.delta, .slice y.sa y.sn y.sc, .slice y.ka y.kn y.kc, .int .i64 a.step, .slice y.ha y.hn y.hc, .int .i64 a.status, .int .i64 a.out] 31)
  have B_b : Blk (w2'.alloc (.cells #[.int .i64 a.P, .int .i64 a.party, .int .i64 a.input, .int .i64 a.mask, .int .i64 a.delta, .slice y.sa y.sn y.sc, .slice y.ka y.kn y.kc, .int .i64 a.step, .slice y.ha y.hn y.hc, .int .i64 a.status, .int .i64 a.out] 31)) (w2'.heap.size) 31 #[.int .i64 a.P, .int .i64 a.party, .int .i64 a.input, .int .i64 a.mask, .int .i64 a.delta, .slice y.sa y.sn y.sc, .slice y.ka y.kn y.kc, .int .i64 a.step, .slice y.ha y.hn y.hc, .int .i64 a.status, .int .i64 a.out] := by exact Blk.new w2' 31 #[.int .i64 a.P, .int .i64 a.party, .int .i64 a.input, .int .i64 a.mask, .int .i64 a.delta, .slice y.sa y.sn y.sc, .slice y.ka y.kn y.kc, .int .i64 a.step, .slice y.ha y.hn y.hc, .int .i64 a.status, .int .i64 a.out]
  have S_w3' : w2'.heap.size + 1 ≤ (w2'.alloc (.cells #[.int .i64 a.P, .int .i64 a.party, .int .i64 a.input, .int .i64 a.mask, .int .i64 a.delta, .slice y.sa y.sn y.sc, .slice y.ka y.kn y.kc, .int .i64 a.step, .slice y.ha y.hn y.hc, .int .i64 a.status, .int .i64 a.out] 31)).heap.size := by first | (simp; done) | (simp; omega) | (simp [World.setCell]; done) | (simp [World.setCell]; omega)
  generalize (w2'.alloc (.cells #[.int .i64 a.P, .int .i64 a.party, .int .i64 a.input, .int .i64 a.mask, .int .i64 a.delta, .slice y.sa y.sn y.sc, .slice y.ka y.kn y.kc, .int .i64 a.step, .slice y.ha y.hn y.hc, .int .i64 a.status, .int .i64 a.out] 31)) = w3' at *
  have V_w3' : Below w.heap.size w w3' := V_w3'_1
  clear V_w2'
  clear V_w3'_1
  have e_a_0 : w3'.cell? ⟨w.heap.size, 0, none⟩ = some (.int .i64 a.P) := B_a.cell 0
  have e_a_1 : w3'.cell? ⟨w.heap.size, 1, none⟩ = some (.int .i64 a.party) := B_a.cell 1
  have e_a_2 : w3'.cell? ⟨w.heap.size, 2, none⟩ = some (.int .i64 a.input) := B_a.cell 2
  have e_a_3 : w3'.cell? ⟨w.heap.size, 3, none⟩ = some (.int .i64 a.mask) := B_a.cell 3
  have e_a_4 : w3'.cell? ⟨w.heap.size, 4, none⟩ = some (.int .i64 a.delta) := B_a.cell 4
  have e_a_5 : w3'.cell? ⟨w.heap.size, 5, none⟩ = some (.slice x.sa x.sn x.sc) := B_a.cell 5
  have e_a_6 : w3'.cell? ⟨w.heap.size, 6, none⟩ = some (.slice x.ka x.kn x.kc) := B_a.cell 6
  have e_a_7 : w3'.cell? ⟨w.heap.size, 7, none⟩ = some (.int .i64 a.step) := B_a.cell 7
  have e_a_8 : w3'.cell? ⟨w.heap.size, 8, none⟩ = some (.slice x.ha x.hn x.hc) := B_a.cell 8
  have e_a_9 : w3'.cell? ⟨w.heap.size, 9, none⟩ = some (.int .i64 a.status) := B_a.cell 9
  have e_a_10 : w3'.cell? ⟨w.heap.size, 10, none⟩ = some (.int .i64 a.out) := B_a.cell 10
  have e_m_0 : w3'.cell? ⟨w.heap.size + 1, 0, none⟩ = some (.int .i64 fr) := B_m.cell 0
  have e_m_1 : w3'.cell? ⟨w.heap.size + 1, 1, none⟩ = some (.int .i64 st) := B_m.cell 1
  have e_m_2 : w3'.cell? ⟨w.heap.size + 1, 2, none⟩ = some (.slice (some ⟨gm, om, none⟩) body.length c) := B_m.cell 2
  go_wp2_with fail
  clear e_a_0 e_a_1 e_a_2 e_a_3 e_a_4 e_a_5 e_a_6 e_a_7 e_a_8 e_a_9 e_a_10 e_m_0 e_m_1 e_m_2
  refine (CA.out _ (LH.out.below V_w3') (LM.out.below V_w3') (LX.out.below V_w3')).mono ?_
  rintro e w4' ⟨rfl, u_w4'⟩
  replace B_a := B_a.below u_w4'
  replace B_m := B_m.below u_w4'
  replace B_r := B_r.below u_w4'
  replace B_b := B_b.below u_w4'
  replace o := o.below u_w4'
  have S_w4' := u_w4'.size
  have V_w4' : Below w.heap.size w w4' := V_w3'.trans (u_w4'.mono V_w3'.size)
  clear V_w3'
  clear u_w4'
  obtain ⟨o5, o6, rs, o8, hd, D56, D58, D68, rfl⟩ := o
  have Q_o5 := Lib.hid (fun q (hq : q ∈ foot y.sa y.sc) => Q_o.out q (List.mem_append_left _ hq))
  have Q_o6 := Lib.hid (fun q (hq : q ∈ foot y.ka y.kc) => Q_o.out q (List.mem_append_right _ (List.mem_append_left _ hq)))
  have Q_o8 := Lib.hid (fun q (hq : q ∈ feetSS y.ha y.hc rs) => Q_o.out q (List.mem_append_right _ (List.mem_append_right _ hq)))
  have hrl := o8.reads.len
  have hrn : y.hn ≤ 2 := by have : rs.length = a.heard.length := by rw [← hd, datas_len]
                            omega
  replace hd := Lib.hid hd
  have e_a_0 : w4'.cell? ⟨w.heap.size, 0, none⟩ = some (.int .i64 a.P) := B_a.cell 0
  have e_a_1 : w4'.cell? ⟨w.heap.size, 1, none⟩ = some (.int .i64 a.party) := B_a.cell 1
  have e_a_2 : w4'.cell? ⟨w.heap.size, 2, none⟩ = some (.int .i64 a.input) := B_a.cell 2
  have e_a_3 : w4'.cell? ⟨w.heap.size, 3, none⟩ = some (.int .i64 a.mask) := B_a.cell 3
  have e_a_4 : w4'.cell? ⟨w.heap.size, 4, none⟩ = some (.int .i64 a.delta) := B_a.cell 4
  have e_a_5 : w4'.cell? ⟨w.heap.size, 5, none⟩ = some (.slice x.sa x.sn x.sc) := B_a.cell 5
  have e_a_6 : w4'.cell? ⟨w.heap.size, 6, none⟩ = some (.slice x.ka x.kn x.kc) := B_a.cell 6
  have e_a_7 : w4'.cell? ⟨w.heap.size, 7, none⟩ = some (.int .i64 a.step) := B_a.cell 7
  have e_a_8 : w4'.cell? ⟨w.heap.size, 8, none⟩ = some (.slice x.ha x.hn x.hc) := B_a.cell 8
  have e_a_9 : w4'.cell? ⟨w.heap.size, 9, none⟩ = some (.int .i64 a.status) := B_a.cell 9
  have e_a_10 : w4'.cell? ⟨w.heap.size, 10, none⟩ = some (.int .i64 a.out) := B_a.cell 10
  have e_m_0 : w4'.cell? ⟨w.heap.size + 1, 0, none⟩ = some (.int .i64 fr) := B_m.cell 0
  have e_m_1 : w4'.cell? ⟨w.heap.size + 1, 1, none⟩ = some (.int .i64 st) := B_m.cell 1
  have e_m_2 : w4'.cell? ⟨w.heap.size + 1, 2, none⟩ = some (.slice (some ⟨gm, om, none⟩) body.length c) := B_m.cell 2
  have e_b_9 : w4'.cell? ⟨w2'.heap.size, 9, none⟩ = some (.int .i64 a.status) := B_b.cell 9
  have f_b_9 : w4'.frozen? ⟨w2'.heap.size, 9, none⟩ = false := B_b.frozen 9
  have e_b_10 : w4'.cell? ⟨w2'.heap.size, 10, none⟩ = some (.int .i64 a.out) := B_b.cell 10
  have f_b_10 : w4'.frozen? ⟨w2'.heap.size, 10, none⟩ = false := B_b.frozen 10
  go_wp2
  have m6 := keepC V_w4'.drew hcm
  have hR6 := (LH.out.below V_w4').drew
  refine wp_region_noPanic ?_
  refine wp_region_held_drew (S := (fun W => Blk W (w.heap.size) 31 #[.int .i64 a.P, .int .i64 a.party, .int .i64 a.input, .int .i64 a.mask, .int .i64 a.delta, .slice x.sa x.sn x.sc, .slice x.ka x.kn x.kc, .int .i64 a.step, .slice x.ha x.hn x.hc, .int .i64 a.status, .int .i64 a.out] ∧ Blk W (w.heap.size + 1) 44 #[.int .i64 fr, .int .i64 st, .slice (some ⟨gm, om, none⟩) body.length c] ∧ W.cell? ⟨gm, om, none⟩ = some (.int .i64 b0))) (by kernel_rfl) ?hS14 (fun hHeld => ?go14)
  case hS14 => exact ⟨B_a.drew, B_m.drew, m6⟩
  refine wpAnyH_take (i := 0) (oi := { dst := some 17, op := _, type := _, pos := _, after := _, guard := _ }) (v := ?v0_15) rfl (by kernel_rfl) (by kernel_rfl) (by kernel_rfl) (fun _ _ _ h => h) (Or.inl ⟨by rfl, ?hy0_15⟩) hHeld ?rest0_15
  case hy0_15 => (intro w _; first | (go_simp; done) | (go_simp; with_reducible rfl) | (with_reducible rfl))
  (try simp only [Act.put, List.setIfInBounds_toArray, List.set_cons_zero, List.set_cons_succ])
  refine wpAnyH_take (i := 1) (oi := { dst := some 18, op := _, type := _, pos := _, after := _, guard := _ }) (v := ?v1_16) rfl (by kernel_rfl) (by kernel_rfl) (by kernel_rfl) (fun _ _ _ h => h) (Or.inl ⟨by rfl, ?hy1_16⟩) hHeld ?rest1_16
  case hy1_16 => (intro w hSw; obtain ⟨qS0, qS1, qS2⟩ := hSw; have cS0_0 := qS0.cell 0; have cS0_1 := qS0.cell 1; have cS0_2 := qS0.cell 2; have cS0_3 := qS0.cell 3; have cS0_4 := qS0.cell 4; have cS0_5 := qS0.cell 5; have cS0_6 := qS0.cell 6; have cS0_7 := qS0.cell 7; have cS0_8 := qS0.cell 8; have cS0_9 := qS0.cell 9; have cS0_10 := qS0.cell 10; have cS1_0 := qS1.cell 0; have cS1_1 := qS1.cell 1; have cS1_2 := qS1.cell 2; first | (go_simp; done) | (go_simp; with_reducible rfl) | (with_reducible rfl))
  (try simp only [Act.put, List.setIfInBounds_toArray, List.set_cons_zero, List.set_cons_succ])
  refine wpAnyH_take (i := 2) (oi := { dst := some 19, op := _, type := _, pos := _, after := _, guard := _ }) (v := ?v2_17) rfl (by kernel_rfl) (by kernel_rfl) (by kernel_rfl) (fun _ _ _ h => h) (Or.inl ⟨by rfl, ?hy2_17⟩) hHeld ?rest2_17
  case hy2_17 => (intro w hSw; obtain ⟨qS0, qS1, qS2⟩ := hSw; have cS0_0 := qS0.cell 0; have cS0_1 := qS0.cell 1; have cS0_2 := qS0.cell 2; have cS0_3 := qS0.cell 3; have cS0_4 := qS0.cell 4; have cS0_5 := qS0.cell 5; have cS0_6 := qS0.cell 6; have cS0_7 := qS0.cell 7; have cS0_8 := qS0.cell 8; have cS0_9 := qS0.cell 9; have cS0_10 := qS0.cell 10; have cS1_0 := qS1.cell 0; have cS1_1 := qS1.cell 1; have cS1_2 := qS1.cell 2; first | (go_simp; done) | (go_simp; with_reducible rfl) | (with_reducible rfl))
  (try simp only [Act.put, List.setIfInBounds_toArray, List.set_cons_zero, List.set_cons_succ])
  refine wpAnyH_take (i := 6) (oi := { dst := some 23, op := _, type := _, pos := _, after := _, guard := _ }) (v := ?v6_18) rfl (by kernel_rfl) (by kernel_rfl) (by kernel_rfl) (fun _ _ _ h => h) (Or.inl ⟨by rfl, ?hy6_18⟩) hHeld ?rest6_18
  case hy6_18 => (intro w _; first | (go_simp; done) | (go_simp; with_reducible rfl) | (with_reducible rfl))
  (try simp only [Act.put, List.setIfInBounds_toArray, List.set_cons_zero, List.set_cons_succ])
  refine wpAnyH_take (i := 7) (oi := { dst := some 24, op := _, type := _, pos := _, after := _, guard := _ }) (v := ?v7_19) rfl (by kernel_rfl) (by kernel_rfl) (by kernel_rfl) (fun _ _ _ h => h) (Or.inl ⟨by rfl, ?hy7_19⟩) hHeld ?rest7_19
  case hy7_19 => (intro w hSw; obtain ⟨qS0, qS1, qS2⟩ := hSw; have cS0_0 := qS0.cell 0; have cS0_1 := qS0.cell 1; have cS0_2 := qS0.cell 2; have cS0_3 := qS0.cell 3; have cS0_4 := qS0.cell 4; have cS0_5 := qS0.cell 5; have cS0_6 := qS0.cell 6; have cS0_7 := qS0.cell 7; have cS0_8 := qS0.cell 8; have cS0_9 := qS0.cell 9; have cS0_10 := qS0.cell 10; have cS1_0 := qS1.cell 0; have cS1_1 := qS1.cell 1; have cS1_2 := qS1.cell 2; first | (go_simp; done) | (go_simp; with_reducible rfl) | (with_reducible rfl))
  (try simp only [Act.put, List.setIfInBounds_toArray, List.set_cons_zero, List.set_cons_succ])
  refine wpAnyH_take (i := 8) (oi := { dst := some 25, op := _, type := _, pos := _, after := _, guard := _ }) (v := ?v8_20) rfl (by kernel_rfl) (by kernel_rfl) (by kernel_rfl) (fun _ _ _ h => h) (Or.inl ⟨by rfl, ?hy8_20⟩) hHeld ?rest8_20
  case hy8_20 => (intro w _; first | (go_simp; done) | (go_simp; with_reducible rfl) | (with_reducible rfl))
  (try simp only [Act.put, List.setIfInBounds_toArray, List.set_cons_zero, List.set_cons_succ])
  refine wpAnyH_take (i := 9) (oi := { dst := some 26, op := _, type := _, pos := _, after := _, guard := _ }) (v := ?v9_21) rfl (by kernel_rfl) (by kernel_rfl) (by kernel_rfl) (fun _ _ _ h => h) (Or.inl ⟨by rfl, ?hy9_21⟩) hHeld ?rest9_21
  case hy9_21 => (intro w hSw; obtain ⟨qS0, qS1, qS2⟩ := hSw; have cS0_0 := qS0.cell 0; have cS0_1 := qS0.cell 1; have cS0_2 := qS0.cell 2; have cS0_3 := qS0.cell 3; have cS0_4 := qS0.cell 4; have cS0_5 := qS0.cell 5; have cS0_6 := qS0.cell 6; have cS0_7 := qS0.cell 7; have cS0_8 := qS0.cell 8; have cS0_9 := qS0.cell 9; have cS0_10 := qS0.cell 10; have cS1_0 := qS1.cell 0; have cS1_1 := qS1.cell 1; have cS1_2 := qS1.cell 2; first | (go_simp; done) | (go_simp; with_reducible rfl) | (with_reducible rfl))
  (try simp only [Act.put, List.setIfInBounds_toArray, List.set_cons_zero, List.set_cons_succ])
  refine wpAnyH_take (i := 12) (oi := { dst := some 29, op := _, type := _, pos := _, after := _, guard := _ }) (v := ?v12_22) rfl (by kernel_rfl) (by kernel_rfl) (by kernel_rfl) (fun _ _ _ h => h) (Or.inl ⟨by rfl, ?hy12_22⟩) hHeld ?rest12_22
  case hy12_22 => (intro w _; first | (go_simp; done) | (go_simp; with_reducible rfl) | (with_reducible rfl))
  (try simp only [Act.put, List.setIfInBounds_toArray, List.set_cons_zero, List.set_cons_succ])
  refine wpAnyH_ready (rs := [3]) (by kernel_rfl) (by simp) ?_
  refine AllReadyH.cons (o := { dst := some 20, op := _, type := _, pos := _, after := _, guard := _ }) rfl (fun K hK => ?_) ?_
  go_simp
  refine (CB.out _ hR6).mono ?_
  rintro e wz ⟨b9, d9, rfl, o9, u9⟩
  obtain ⟨_, E9, _, _, v9, _, _⟩ := o9.at 0 (by omega)
  cases E9
  have A9 := Blk.below B_a.drew u9
  have M9 := Blk.below B_m.drew u9
  have B9 := Blk.below B_b.drew u9
  have m9 := keepC u9 m6
  have v9' : wz.cell? ⟨_, 0, none⟩ = some (.int .i64 th) := v9
  have p9 := B9.frozen 9
  have r9 := B9.cell 9
  have r10 := B9.cell 10
  have p10 := B9.frozen 10
  focus (try go_wp2_with fail)
  refine hK.out _ _ ?_ (fun hHeld => ?_)
  · (exact ⟨A9, M9, m9⟩)
  clear hK K
  (try simp only [Act.put, List.setIfInBounds_toArray, List.set_cons_zero, List.set_cons_succ])
  refine wpAnyH_take (i := 4) (oi := { dst := some 21, op := _, type := _, pos := _, after := _, guard := _ }) (v := ?v4_23) rfl (by kernel_rfl) (by kernel_rfl) (by kernel_rfl) (fun _ _ _ h => h) (Or.inl ⟨by rfl, ?hy4_23⟩) hHeld ?rest4_23
  case hy4_23 => (intro w _; first | (go_simp; done) | (go_simp; with_reducible rfl) | (with_reducible rfl))
  (try simp only [Act.put, List.setIfInBounds_toArray, List.set_cons_zero, List.set_cons_succ])
  refine wpAnyH_ready (rs := [5]) (by kernel_rfl) (by simp) ?_
  refine AllReadyH.cons (o := { dst := some 22, op := _, type := _, pos := _, after := _, guard := _ }) rfl (fun K hK => ?_) ?_
  go_simp
  refine hK.out _ _ ?_ (fun hHeld => ?_)
  · (exact ⟨A9, M9, m9⟩)
  clear hK K
  (try simp only [Act.put, List.setIfInBounds_toArray, List.set_cons_zero, List.set_cons_succ])
  refine wpAnyH_take (i := 10) (oi := { dst := some 27, op := _, type := _, pos := _, after := _, guard := _ }) (v := ?v10_24) rfl (by kernel_rfl) (by kernel_rfl) (by kernel_rfl) (fun _ _ _ h => h) (Or.inl ⟨by rfl, ?hy10_24⟩) hHeld ?rest10_24
  case hy10_24 => (intro w _; first | (go_simp; done) | (go_simp; with_reducible rfl) | (with_reducible rfl))
  (try simp only [Act.put, List.setIfInBounds_toArray, List.set_cons_zero, List.set_cons_succ])
  refine wpAnyH_ready (rs := [11]) (by kernel_rfl) (by simp) ?_
  refine AllReadyH.cons (o := { dst := some 28, op := _, type := _, pos := _, after := _, guard := _ }) rfl (fun K hK => ?_) ?_
  go_simp
  refine (mod_same _ _ _ (by omega) (by omega)).mono ?_
  rintro e wy ⟨rfl, hw⟩
  replace hw := hw.symm
  subst hw
  focus (try go_wp2_with fail)
  refine hK.out _ _ ?_ (fun hHeld => ?_)
  · (exact ⟨A9, M9, m9⟩)
  clear hK K
  (try simp only [Act.put, List.setIfInBounds_toArray, List.set_cons_zero, List.set_cons_succ])
  refine wpAnyH_ready (rs := [13]) (by kernel_rfl) (by simp) ?_
  refine AllReadyH.cons (o := { dst := none, op := _, type := _, pos := _, after := _, guard := _ }) rfl (fun K hK => ?_) ?_
  have G8 : Only [w2'.heap.size] wz (wz.setCell ⟨w2'.heap.size, 9, none⟩ (.int .i64 1)) := (Only.refl _ _).setCell ⟨w2'.heap.size, 9, none⟩ _ (by simp)
  have A8 := Blk.only A9 G8 (by simp; omega)
  have M8 := Blk.only M9 G8 (by simp; omega)
  have m8 : (wz.setCell ⟨w2'.heap.size, 9, none⟩ (.int .i64 1)).cell? ⟨gm, om, none⟩ = some (.int .i64 b0) := cellFarP m9 (show gm ≠ w2'.heap.size by omega)
  have B8 := B9.set_ 9 (.int .i64 1)
  have k7 := B8.frozen 10
  go_simp
  refine hK.out _ _ ?_ (fun hHeld => ?_)
  · (exact ⟨A8, M8, m8⟩)
  clear hK K
  (try simp only [Act.put, List.setIfInBounds_toArray, List.set_cons_zero, List.set_cons_succ])
  refine wpAnyH_take (i := 14) (oi := { dst := some 30, op := _, type := _, pos := _, after := _, guard := _ }) (v := ?v14_25) rfl (by kernel_rfl) (by kernel_rfl) (by kernel_rfl) (fun _ _ _ h => h) (Or.inl ⟨by rfl, ?hy14_25⟩) hHeld ?rest14_25
  case hy14_25 => (intro w _; first | (go_simp; done) | (go_simp; with_reducible rfl) | (with_reducible rfl))
  (try simp only [Act.put, List.setIfInBounds_toArray, List.set_cons_zero, List.set_cons_succ])
  refine wpAnyH_ready (rs := [15]) (by kernel_rfl) (by simp) ?_
  refine AllReadyH.cons (o := { dst := none, op := _, type := _, pos := _, after := _, guard := _ }) rfl (fun K hK => ?_) ?_
  go_simp
  refine hK.out _ _ ?_ (fun hHeld => ?_)
  · (exact ⟨Blk.only A8 ((Only.refl [w2'.heap.size] _).setCell ⟨w2'.heap.size, 10, none⟩ _ (by simp)) (by simp; omega), Blk.only M8 ((Only.refl [w2'.heap.size] _).setCell ⟨w2'.heap.size, 10, none⟩ _ (by simp)) (by simp; omega), cellFarP m8 (show gm ≠ w2'.heap.size by omega)⟩)
  clear hK K
  (try simp only [Act.put, List.setIfInBounds_toArray, List.set_cons_zero, List.set_cons_succ])
  refine wpAnyH_done (by kernel_rfl) ?_ _
  refine NoPanic.normal ?_
  rotate_left 1
  exact AllReadyH.nil
  exact AllReadyH.nil
  exact AllReadyH.nil
  exact AllReadyH.nil
  exact AllReadyH.nil
  clear A9 M9 B9 m9 v9 v9' p9 p10 r9 r10 G8 A8 M8 m8 B8 k7 hR6 m6 o9
  clear e_a_0 e_a_1 e_a_2 e_a_3 e_a_4 e_a_5 e_a_6 e_a_7 e_a_8 e_a_9 e_a_10 e_m_0 e_m_1 e_m_2 e_b_9 f_b_9 e_b_10 f_b_10
  have uA : Below w4'.heap.size w4' wz := (Below.refl _ _).drew.trans u9
  clear u9
  replace B_a := B_a.below uA
  replace B_m := B_m.below uA
  replace B_r := B_r.below uA
  replace B_b := B_b.below uA
  replace o5 := o5.below uA
  replace o6 := o6.below uA
  replace o8 := o8.below uA
  have S_wz := uA.size
  have V_wz : Below w.heap.size w wz := V_w4'.trans (uA.mono V_w4'.size)
  clear V_w4'
  clear uA
  have g_1 : Only [w2'.heap.size] wz (wz.setCell ⟨w2'.heap.size, 9, none⟩ (.int .i64 1)) := (Only.refl _ _).setCell _ _ (by simp)
  replace B_b := B_b.set_ 9 (.int .i64 1)
  generalize wz.setCell ⟨w2'.heap.size, 9, none⟩ (.int .i64 1) = w5_1' at *
  have G := g_1
  clear g_1
  have g_2 : Only [w2'.heap.size] w5_1' (w5_1'.setCell ⟨w2'.heap.size, 10, none⟩ (.int .i64 ((th + b0) % a.P))) := (Only.refl _ _).setCell _ _ (by simp)
  replace B_b := B_b.set_ 10 (.int .i64 ((th + b0) % a.P))
  generalize w5_1'.setCell ⟨w2'.heap.size, 10, none⟩ (.int .i64 ((th + b0) % a.P)) = w5' at *
  replace G := G.trans g_2
  clear g_2
  simp only [List.setIfInBounds_toArray, List.set_cons_zero, List.set_cons_succ] at B_b
  have V_w5' : Below w.heap.size w w5' := (V_wz).trans (G.below (V_wz).size (fun q hq => by have := (V_wz).size; simp at hq; omega))
  replace B_a := B_a.only G (by first | (simp; done) | (simp; omega))
  replace B_m := B_m.only G (by first | (simp; done) | (simp; omega))
  replace B_r := B_r.only G (by first | (simp; done) | (simp; omega))
  replace o5 := o5.only G (fun q hq hq' => by have := Q_o5.out q hq; simp at hq'; omega)
  replace o6 := o6.only G (fun q hq hq' => by have := Q_o6.out q hq; simp at hq'; omega)
  replace o8 := o8.only G (fun q hq hq' => by have := Q_o8.out q hq; simp at hq'; omega)
  have sG0 := G.size
  clear G
  clear V_wz
  have S_w5' : wz.heap.size + 0 ≤ w5'.heap.size := by omega
  clear sG0
  have NN : ∀ q, q ∈ foot y.ha y.hc → w.heap.size + 3 ≤ q ∧ q < w2'.heap.size := fun q hq => (Q_o8.out q (List.mem_append_left _ hq))
  have SL : w.heap.size + 3 ≤ w5'.drew.heap.size := (show w.heap.size + 3 ≤ w5'.heap.size by omega)
  have hM7 := (LM.out.below V_w5').below (Below.refl _ _).drew
  have e_a_7 : w5'.cell? ⟨w.heap.size, 7, none⟩ = some (.int .i64 a.step) := B_a.cell 7
  have e_m_2 : w5'.cell? ⟨w.heap.size + 1, 2, none⟩ = some (.slice (some ⟨gm, om, none⟩) body.length c) := B_m.cell 2
  have e_b_8 : w5'.cell? ⟨w2'.heap.size, 8, none⟩ = some (.slice y.ha y.hn y.hc) := B_b.cell 8
  have f_b_8 : w5'.frozen? ⟨w2'.heap.size, 8, none⟩ = false := B_b.frozen 8
  have e_b_7 : w5'.cell? ⟨w2'.heap.size, 7, none⟩ = some (.int .i64 a.step) := B_b.cell 7
  have f_b_7 : w5'.frozen? ⟨w2'.heap.size, 7, none⟩ = false := B_b.frozen 7
  go_wp2
  refine wp_region_noPanic ?_
  refine wp_region_held_drew (S := (fun W => Blk W (w.heap.size) 31 #[.int .i64 a.P, .int .i64 a.party, .int .i64 a.input, .int .i64 a.mask, .int .i64 a.delta, .slice x.sa x.sn x.sc, .slice x.ka x.kn x.kc, .int .i64 a.step, .slice x.ha x.hn x.hc, .int .i64 a.status, .int .i64 a.out] ∧ Blk W (w.heap.size + 1) 44 #[.int .i64 fr, .int .i64 st, .slice (some ⟨gm, om, none⟩) body.length c])) (by kernel_rfl) ?hS26 (fun hHeld => ?go26)
  case hS26 => exact ⟨B_a.drew, B_m.drew⟩
  refine wpAnyH_take (i := 0) (oi := { dst := some 31, op := _, type := _, pos := _, after := _, guard := _ }) (v := ?v0_27) rfl (by kernel_rfl) (by kernel_rfl) (by kernel_rfl) (fun _ _ _ h => h) (Or.inl ⟨by rfl, ?hy0_27⟩) hHeld ?rest0_27
  case hy0_27 => (intro w _; first | (go_simp; done) | (go_simp; with_reducible rfl) | (with_reducible rfl))
  (try simp only [Act.put, List.setIfInBounds_toArray, List.set_cons_zero, List.set_cons_succ])
  refine wpAnyH_take (i := 2) (oi := { dst := some 33, op := _, type := _, pos := _, after := _, guard := _ }) (v := ?v2_28) rfl (by kernel_rfl) (by kernel_rfl) (by kernel_rfl) (fun _ _ _ h => h) (Or.inl ⟨by rfl, ?hy2_28⟩) hHeld ?rest2_28
  case hy2_28 => (intro w _; first | (go_simp; done) | (go_simp; with_reducible rfl) | (with_reducible rfl))
  (try simp only [Act.put, List.setIfInBounds_toArray, List.set_cons_zero, List.set_cons_succ])
  refine wpAnyH_take (i := 3) (oi := { dst := some 34, op := _, type := _, pos := _, after := _, guard := _ }) (v := ?v3_29) rfl (by kernel_rfl) (by kernel_rfl) (by kernel_rfl) (fun _ _ _ h => h) (Or.inl ⟨by rfl, ?hy3_29⟩) hHeld ?rest3_29
  case hy3_29 => (intro w hSw; obtain ⟨qS0, qS1⟩ := hSw; have cS0_0 := qS0.cell 0; have cS0_1 := qS0.cell 1; have cS0_2 := qS0.cell 2; have cS0_3 := qS0.cell 3; have cS0_4 := qS0.cell 4; have cS0_5 := qS0.cell 5; have cS0_6 := qS0.cell 6; have cS0_7 := qS0.cell 7; have cS0_8 := qS0.cell 8; have cS0_9 := qS0.cell 9; have cS0_10 := qS0.cell 10; have cS1_0 := qS1.cell 0; have cS1_1 := qS1.cell 1; have cS1_2 := qS1.cell 2; first | (go_simp; done) | (go_simp; with_reducible rfl) | (with_reducible rfl))
  (try simp only [Act.put, List.setIfInBounds_toArray, List.set_cons_zero, List.set_cons_succ])
  refine wpAnyH_take (i := 7) (oi := { dst := some 38, op := _, type := _, pos := _, after := _, guard := _ }) (v := ?v7_30) rfl (by kernel_rfl) (by kernel_rfl) (by kernel_rfl) (fun _ _ _ h => h) (Or.inl ⟨by rfl, ?hy7_30⟩) hHeld ?rest7_30
  case hy7_30 => (intro w _; first | (go_simp; done) | (go_simp; with_reducible rfl) | (with_reducible rfl))
  (try simp only [Act.put, List.setIfInBounds_toArray, List.set_cons_zero, List.set_cons_succ])
  refine wpAnyH_take (i := 8) (oi := { dst := some 39, op := _, type := _, pos := _, after := _, guard := _ }) (v := ?v8_31) rfl (by kernel_rfl) (by kernel_rfl) (by kernel_rfl) (fun _ _ _ h => h) (Or.inl ⟨by rfl, ?hy8_31⟩) hHeld ?rest8_31
  case hy8_31 => (intro w hSw; obtain ⟨qS0, qS1⟩ := hSw; have cS0_0 := qS0.cell 0; have cS0_1 := qS0.cell 1; have cS0_2 := qS0.cell 2; have cS0_3 := qS0.cell 3; have cS0_4 := qS0.cell 4; have cS0_5 := qS0.cell 5; have cS0_6 := qS0.cell 6; have cS0_7 := qS0.cell 7; have cS0_8 := qS0.cell 8; have cS0_9 := qS0.cell 9; have cS0_10 := qS0.cell 10; have cS1_0 := qS1.cell 0; have cS1_1 := qS1.cell 1; have cS1_2 := qS1.cell 2; first | (go_simp; done) | (go_simp; with_reducible rfl) | (with_reducible rfl))
  (try simp only [Act.put, List.setIfInBounds_toArray, List.set_cons_zero, List.set_cons_succ])
  refine wpAnyH_take (i := 9) (oi := { dst := some 40, op := _, type := _, pos := _, after := _, guard := _ }) (v := ?v9_32) rfl (by kernel_rfl) (by kernel_rfl) (by kernel_rfl) (fun _ _ _ h => h) (Or.inl ⟨by rfl, ?hy9_32⟩) hHeld ?rest9_32
  case hy9_32 => (intro w _; first | (go_simp; done) | (go_simp; with_reducible rfl) | (with_reducible rfl))
  (try simp only [Act.put, List.setIfInBounds_toArray, List.set_cons_zero, List.set_cons_succ])
  refine wpAnyH_ready (rs := [1, 4]) (by kernel_rfl) (by simp) ?_
  refine AllReadyH.cons (o := { dst := some 32, op := _, type := _, pos := _, after := _, guard := _ }) rfl (fun K hK => ?_) ?_
  go_simp
  refine hK.out _ _ ?_ (fun hHeld => ?_)
  · (first | exact ⟨A8, M8⟩ | exact ⟨A7, M7⟩ | exact ⟨A9A, M9A⟩ | exact ⟨A9, M9⟩ | exact ⟨B_a.drew, B_m.drew⟩)
  clear hK K
  (try simp only [Act.put, List.setIfInBounds_toArray, List.set_cons_zero, List.set_cons_succ])
  refine wpAnyH_ready (rs := [4]) (by kernel_rfl) (by simp) ?_
  refine AllReadyH.cons (o := { dst := some 35, op := _, type := _, pos := _, after := _, guard := _ }) rfl (fun K hK => ?_) ?_
  go_simp
  refine (Clone_any _ _ _ body _ hM7 hn4).mono ?_
  rintro e wz ⟨b9, d9, rfl, o9, u9⟩
  have A9 := Blk.below B_a.drew u9
  have A9A := Blk.alloc A9 (.cells #[.slice b9 body.length d9] 23)
  have M9 := Blk.below B_m.drew u9
  have M9A := Blk.alloc M9 (.cells #[.slice b9 body.length d9] 23)
  have B9 := Blk.below B_b.drew u9
  have B9A := Blk.alloc B9 (.cells #[.slice b9 body.length d9] 23)
  have g9b := B9.cell 8
  have g9B := B9A.cell 8
  focus (try go_wp2_with fail)
  refine hK.out _ _ ?_ (fun hHeld => ?_)
  · (first | exact ⟨A8, M8⟩ | exact ⟨A7, M7⟩ | exact ⟨A9A, M9A⟩ | exact ⟨A9, M9⟩ | exact ⟨B_a.drew, B_m.drew⟩)
  clear hK K
  (try simp only [Act.put, List.setIfInBounds_toArray, List.set_cons_zero, List.set_cons_succ])
  refine wpAnyH_ready (rs := [5]) (by kernel_rfl) (by simp) ?_
  refine AllReadyH.cons (o := { dst := some 36, op := _, type := _, pos := _, after := _, guard := _ }) rfl (fun K hK => ?_) ?_
  go_simp
  refine hK.out _ _ ?_ (fun hHeld => ?_)
  · (first | exact ⟨A8, M8⟩ | exact ⟨A7, M7⟩ | exact ⟨A9A, M9A⟩ | exact ⟨A9, M9⟩ | exact ⟨B_a.drew, B_m.drew⟩)
  clear hK K
  (try simp only [Act.put, List.setIfInBounds_toArray, List.set_cons_zero, List.set_cons_succ])
  refine wpAnyH_ready (rs := [6]) (by kernel_rfl) (by simp) ?_
  refine AllReadyH.cons (o := { dst := some 37, op := _, type := _, pos := _, after := _, guard := _ }) rfl (fun K hK => ?_) ?_
  have hdj : Disj (foot b9 d9) (feetSS y.ha y.hc rs) := Disj.of_rng o9.feet o8.feet (Or.inr (Nat.le_refl _))
  have own2 := o8.below ((Below.refl _ _).drew.trans u9)
  have o10 := o9.lower (b' := w.heap.size + 3) SL
  have LIT := RowC.lit1 wz (rowV (b9, d9, body)) 23
  have own3 := OwnSS.alloc own2 (.cells #[rowV (b9, d9, body)] 23)
  have o11 := Own.alloc o10 (.cells #[rowV (b9, d9, body)] 23)
  have OO : OwnC (wz.alloc (.cells #[rowV (b9, d9, body)] 23)) (w.heap.size + 3) y.ha y.hn y.hc 23 1 (rs.map rowV) := own3.out
  have szz : w.heap.size + 3 ≤ (wz.alloc (.cells #[rowV (b9, d9, body)] 23)).heap.size := by have := u9.size; simp at *; omega
  refine step_appSS (by rfl) _ _ (by rfl) (w.heap.size + 3) y.ha y.hn y.hc (rs.map rowV) (by rfl) OO _ 1 1 [rowV (b9, d9, body)] (by rfl) LIT (by simp [rowV, Value.oneCell']) (by omega) szz ?_
  intro a7 c7 w7 oc u7 g7 m7
  have A7 := Blk.only A9A (Only.of_grown g7) (fun hq => by have := NN _ hq; omega)
  have M7 := Blk.only M9A (Only.of_grown g7) (fun hq => by have := NN _ hq; omega)
  have B7 := Blk.only B9A (Only.of_grown g7) (fun hq => by have := NN _ hq; omega)
  have j8 := B7.cell 8
  have j7 := B7.cell 7
  have f8 := B7.frozen 8
  have f7 := B7.frozen 7
  refine hK.out _ _ ?_ (fun hHeld => ?_)
  · (first | exact ⟨A8, M8⟩ | exact ⟨A7, M7⟩ | exact ⟨A9A, M9A⟩ | exact ⟨A9, M9⟩ | exact ⟨B_a.drew, B_m.drew⟩)
  clear hK K
  (try simp only [Act.put, List.setIfInBounds_toArray, List.set_cons_zero, List.set_cons_succ])
  refine wpAnyH_take (i := 10) (oi := { dst := some 41, op := _, type := _, pos := _, after := _, guard := _ }) (v := ?v10_33) rfl (by kernel_rfl) (by kernel_rfl) (by kernel_rfl) (fun _ _ _ h => h) (Or.inl ⟨by rfl, ?hy10_33⟩) hHeld ?rest10_33
  case hy10_33 => (intro w _; first | (go_simp; done) | (go_simp; with_reducible rfl) | (with_reducible rfl))
  (try simp only [Act.put, List.setIfInBounds_toArray, List.set_cons_zero, List.set_cons_succ])
  refine wpAnyH_ready (rs := [11]) (by kernel_rfl) (by simp) ?_
  refine AllReadyH.cons (o := { dst := none, op := _, type := _, pos := _, after := _, guard := _ }) rfl (fun K hK => ?_) ?_
  have G8 : Only [w2'.heap.size] w7 (w7.setCell ⟨w2'.heap.size, 8, none⟩ (.slice a7 (y.hn + 1) c7)) := (Only.refl _ _).setCell ⟨w2'.heap.size, 8, none⟩ _ (by simp)
  have A8 := Blk.only A7 G8 (by simp; omega)
  have M8 := Blk.only M7 G8 (by simp; omega)
  have B8 := B7.set_ 8 (.slice a7 (y.hn + 1) c7)
  have k7 := B8.frozen 7
  go_simp
  refine hK.out _ _ ?_ (fun hHeld => ?_)
  · (first | exact ⟨A8, M8⟩ | exact ⟨A7, M7⟩ | exact ⟨A9A, M9A⟩ | exact ⟨A9, M9⟩ | exact ⟨B_a.drew, B_m.drew⟩)
  clear hK K
  (try simp only [Act.put, List.setIfInBounds_toArray, List.set_cons_zero, List.set_cons_succ])
  refine wpAnyH_take (i := 12) (oi := { dst := some 42, op := _, type := _, pos := _, after := _, guard := _ }) (v := ?v12_34) rfl (by kernel_rfl) (by kernel_rfl) (by kernel_rfl) (fun _ _ _ h => h) (Or.inl ⟨by rfl, ?hy12_34⟩) hHeld ?rest12_34
  case hy12_34 => (intro w _; first | (go_simp; done) | (go_simp; with_reducible rfl) | (with_reducible rfl))
  (try simp only [Act.put, List.setIfInBounds_toArray, List.set_cons_zero, List.set_cons_succ])
  refine wpAnyH_ready (rs := [13]) (by kernel_rfl) (by simp) ?_
  refine AllReadyH.cons (o := { dst := none, op := _, type := _, pos := _, after := _, guard := _ }) rfl (fun K hK => ?_) ?_
  go_simp
  refine hK.out _ _ ?_ (fun hHeld => ?_)
  · (exact ⟨Blk.only A8 ((Only.refl [w2'.heap.size] _).setCell ⟨w2'.heap.size, 7, none⟩ _ (by simp)) (by simp; omega), Blk.only M8 ((Only.refl [w2'.heap.size] _).setCell ⟨w2'.heap.size, 7, none⟩ _ (by simp)) (by simp; omega)⟩)
  clear hK K
  (try simp only [Act.put, List.setIfInBounds_toArray, List.set_cons_zero, List.set_cons_succ])
  refine wpAnyH_done (by kernel_rfl) ?_ _
  refine NoPanic.normal ?_
  rotate_left 1
  exact AllReadyH.nil
  exact AllReadyH.nil
  exact AllReadyH.nil
  exact AllReadyH.nil
  exact AllReadyH.nil
  refine AllReadyH.cons (o := { dst := some 35, op := _, type := _, pos := _, after := _, guard := _ }) rfl (fun K hK => ?_) ?_
  go_simp
  refine (Clone_any _ _ _ body _ hM7 hn4).mono ?_
  rintro e wz ⟨b9, d9, rfl, o9, u9⟩
  have A9 := Blk.below B_a.drew u9
  have A9A := Blk.alloc A9 (.cells #[.slice b9 body.length d9] 23)
  have M9 := Blk.below B_m.drew u9
  have M9A := Blk.alloc M9 (.cells #[.slice b9 body.length d9] 23)
  have B9 := Blk.below B_b.drew u9
  have B9A := Blk.alloc B9 (.cells #[.slice b9 body.length d9] 23)
  have g9b := B9.cell 8
  have g9B := B9A.cell 8
  focus (try go_wp2_with fail)
  refine hK.out _ _ ?_ (fun hHeld => ?_)
  · (first | exact ⟨A8, M8⟩ | exact ⟨A7, M7⟩ | exact ⟨A9A, M9A⟩ | exact ⟨A9, M9⟩ | exact ⟨B_a.drew, B_m.drew⟩)
  clear hK K
  (try simp only [Act.put, List.setIfInBounds_toArray, List.set_cons_zero, List.set_cons_succ])
  refine wpAnyH_ready (rs := [1, 5]) (by kernel_rfl) (by simp) ?_
  refine AllReadyH.cons (o := { dst := some 32, op := _, type := _, pos := _, after := _, guard := _ }) rfl (fun K hK => ?_) ?_
  go_simp
  refine hK.out _ _ ?_ (fun hHeld => ?_)
  · (first | exact ⟨A8, M8⟩ | exact ⟨A7, M7⟩ | exact ⟨A9A, M9A⟩ | exact ⟨A9, M9⟩ | exact ⟨B_a.drew, B_m.drew⟩)
  clear hK K
  (try simp only [Act.put, List.setIfInBounds_toArray, List.set_cons_zero, List.set_cons_succ])
  refine wpAnyH_ready (rs := [5]) (by kernel_rfl) (by simp) ?_
  refine AllReadyH.cons (o := { dst := some 36, op := _, type := _, pos := _, after := _, guard := _ }) rfl (fun K hK => ?_) ?_
  go_simp
  refine hK.out _ _ ?_ (fun hHeld => ?_)
  · (first | exact ⟨A8, M8⟩ | exact ⟨A7, M7⟩ | exact ⟨A9A, M9A⟩ | exact ⟨A9, M9⟩ | exact ⟨B_a.drew, B_m.drew⟩)
  clear hK K
  (try simp only [Act.put, List.setIfInBounds_toArray, List.set_cons_zero, List.set_cons_succ])
  refine wpAnyH_ready (rs := [6]) (by kernel_rfl) (by simp) ?_
  refine AllReadyH.cons (o := { dst := some 37, op := _, type := _, pos := _, after := _, guard := _ }) rfl (fun K hK => ?_) ?_
  have hdj : Disj (foot b9 d9) (feetSS y.ha y.hc rs) := Disj.of_rng o9.feet o8.feet (Or.inr (Nat.le_refl _))
  have own2 := o8.below ((Below.refl _ _).drew.trans u9)
  have o10 := o9.lower (b' := w.heap.size + 3) SL
  have LIT := RowC.lit1 wz (rowV (b9, d9, body)) 23
  have own3 := OwnSS.alloc own2 (.cells #[rowV (b9, d9, body)] 23)
  have o11 := Own.alloc o10 (.cells #[rowV (b9, d9, body)] 23)
  have OO : OwnC (wz.alloc (.cells #[rowV (b9, d9, body)] 23)) (w.heap.size + 3) y.ha y.hn y.hc 23 1 (rs.map rowV) := own3.out
  have szz : w.heap.size + 3 ≤ (wz.alloc (.cells #[rowV (b9, d9, body)] 23)).heap.size := by have := u9.size; simp at *; omega
  refine step_appSS (by rfl) _ _ (by rfl) (w.heap.size + 3) y.ha y.hn y.hc (rs.map rowV) (by rfl) OO _ 1 1 [rowV (b9, d9, body)] (by rfl) LIT (by simp [rowV, Value.oneCell']) (by omega) szz ?_
  intro a7 c7 w7 oc u7 g7 m7
  have A7 := Blk.only A9A (Only.of_grown g7) (fun hq => by have := NN _ hq; omega)
  have M7 := Blk.only M9A (Only.of_grown g7) (fun hq => by have := NN _ hq; omega)
  have B7 := Blk.only B9A (Only.of_grown g7) (fun hq => by have := NN _ hq; omega)
  have j8 := B7.cell 8
  have j7 := B7.cell 7
  have f8 := B7.frozen 8
  have f7 := B7.frozen 7
  refine hK.out _ _ ?_ (fun hHeld => ?_)
  · (first | exact ⟨A8, M8⟩ | exact ⟨A7, M7⟩ | exact ⟨A9A, M9A⟩ | exact ⟨A9, M9⟩ | exact ⟨B_a.drew, B_m.drew⟩)
  clear hK K
  (try simp only [Act.put, List.setIfInBounds_toArray, List.set_cons_zero, List.set_cons_succ])
  refine wpAnyH_take (i := 10) (oi := { dst := some 41, op := _, type := _, pos := _, after := _, guard := _ }) (v := ?v10_35) rfl (by kernel_rfl) (by kernel_rfl) (by kernel_rfl) (fun _ _ _ h => h) (Or.inl ⟨by rfl, ?hy10_35⟩) hHeld ?rest10_35
  case hy10_35 => (intro w _; first | (go_simp; done) | (go_simp; with_reducible rfl) | (with_reducible rfl))
  (try simp only [Act.put, List.setIfInBounds_toArray, List.set_cons_zero, List.set_cons_succ])
  refine wpAnyH_ready (rs := [11]) (by kernel_rfl) (by simp) ?_
  refine AllReadyH.cons (o := { dst := none, op := _, type := _, pos := _, after := _, guard := _ }) rfl (fun K hK => ?_) ?_
  have G8 : Only [w2'.heap.size] w7 (w7.setCell ⟨w2'.heap.size, 8, none⟩ (.slice a7 (y.hn + 1) c7)) := (Only.refl _ _).setCell ⟨w2'.heap.size, 8, none⟩ _ (by simp)
  have A8 := Blk.only A7 G8 (by simp; omega)
  have M8 := Blk.only M7 G8 (by simp; omega)
  have B8 := B7.set_ 8 (.slice a7 (y.hn + 1) c7)
  have k7 := B8.frozen 7
  go_simp
  refine hK.out _ _ ?_ (fun hHeld => ?_)
  · (first | exact ⟨A8, M8⟩ | exact ⟨A7, M7⟩ | exact ⟨A9A, M9A⟩ | exact ⟨A9, M9⟩ | exact ⟨B_a.drew, B_m.drew⟩)
  clear hK K
  (try simp only [Act.put, List.setIfInBounds_toArray, List.set_cons_zero, List.set_cons_succ])
  refine wpAnyH_take (i := 12) (oi := { dst := some 42, op := _, type := _, pos := _, after := _, guard := _ }) (v := ?v12_36) rfl (by kernel_rfl) (by kernel_rfl) (by kernel_rfl) (fun _ _ _ h => h) (Or.inl ⟨by rfl, ?hy12_36⟩) hHeld ?rest12_36
  case hy12_36 => (intro w _; first | (go_simp; done) | (go_simp; with_reducible rfl) | (with_reducible rfl))
  (try simp only [Act.put, List.setIfInBounds_toArray, List.set_cons_zero, List.set_cons_succ])
  refine wpAnyH_ready (rs := [13]) (by kernel_rfl) (by simp) ?_
  refine AllReadyH.cons (o := { dst := none, op := _, type := _, pos := _, after := _, guard := _ }) rfl (fun K hK => ?_) ?_
  go_simp
  refine hK.out _ _ ?_ (fun hHeld => ?_)
  · (exact ⟨Blk.only A8 ((Only.refl [w2'.heap.size] _).setCell ⟨w2'.heap.size, 7, none⟩ _ (by simp)) (by simp; omega), Blk.only M8 ((Only.refl [w2'.heap.size] _).setCell ⟨w2'.heap.size, 7, none⟩ _ (by simp)) (by simp; omega)⟩)
  clear hK K
  (try simp only [Act.put, List.setIfInBounds_toArray, List.set_cons_zero, List.set_cons_succ])
  refine wpAnyH_done (by kernel_rfl) ?_ _
  refine NoPanic.normal ?_
  rotate_left 1
  exact AllReadyH.nil
  exact AllReadyH.nil
  exact AllReadyH.nil
  exact AllReadyH.nil
  refine AllReadyH.cons (o := { dst := some 36, op := _, type := _, pos := _, after := _, guard := _ }) rfl (fun K hK => ?_) ?_
  go_simp
  refine hK.out _ _ ?_ (fun hHeld => ?_)
  · (first | exact ⟨A8, M8⟩ | exact ⟨A7, M7⟩ | exact ⟨A9A, M9A⟩ | exact ⟨A9, M9⟩ | exact ⟨B_a.drew, B_m.drew⟩)
  clear hK K
  (try simp only [Act.put, List.setIfInBounds_toArray, List.set_cons_zero, List.set_cons_succ])
  refine wpAnyH_ready (rs := [1]) (by kernel_rfl) (by simp) ?_
  refine AllReadyH.cons (o := { dst := some 32, op := _, type := _, pos := _, after := _, guard := _ }) rfl (fun K hK => ?_) ?_
  go_simp
  refine hK.out _ _ ?_ (fun hHeld => ?_)
  · (first | exact ⟨A8, M8⟩ | exact ⟨A7, M7⟩ | exact ⟨A9A, M9A⟩ | exact ⟨A9, M9⟩ | exact ⟨B_a.drew, B_m.drew⟩)
  clear hK K
  (try simp only [Act.put, List.setIfInBounds_toArray, List.set_cons_zero, List.set_cons_succ])
  refine wpAnyH_ready (rs := [6]) (by kernel_rfl) (by simp) ?_
  refine AllReadyH.cons (o := { dst := some 37, op := _, type := _, pos := _, after := _, guard := _ }) rfl (fun K hK => ?_) ?_
  have hdj : Disj (foot b9 d9) (feetSS y.ha y.hc rs) := Disj.of_rng o9.feet o8.feet (Or.inr (Nat.le_refl _))
  have own2 := o8.below ((Below.refl _ _).drew.trans u9)
  have o10 := o9.lower (b' := w.heap.size + 3) SL
  have LIT := RowC.lit1 wz (rowV (b9, d9, body)) 23
  have own3 := OwnSS.alloc own2 (.cells #[rowV (b9, d9, body)] 23)
  have o11 := Own.alloc o10 (.cells #[rowV (b9, d9, body)] 23)
  have OO : OwnC (wz.alloc (.cells #[rowV (b9, d9, body)] 23)) (w.heap.size + 3) y.ha y.hn y.hc 23 1 (rs.map rowV) := own3.out
  have szz : w.heap.size + 3 ≤ (wz.alloc (.cells #[rowV (b9, d9, body)] 23)).heap.size := by have := u9.size; simp at *; omega
  refine step_appSS (by rfl) _ _ (by rfl) (w.heap.size + 3) y.ha y.hn y.hc (rs.map rowV) (by rfl) OO _ 1 1 [rowV (b9, d9, body)] (by rfl) LIT (by simp [rowV, Value.oneCell']) (by omega) szz ?_
  intro a7 c7 w7 oc u7 g7 m7
  have A7 := Blk.only A9A (Only.of_grown g7) (fun hq => by have := NN _ hq; omega)
  have M7 := Blk.only M9A (Only.of_grown g7) (fun hq => by have := NN _ hq; omega)
  have B7 := Blk.only B9A (Only.of_grown g7) (fun hq => by have := NN _ hq; omega)
  have j8 := B7.cell 8
  have j7 := B7.cell 7
  have f8 := B7.frozen 8
  have f7 := B7.frozen 7
  refine hK.out _ _ ?_ (fun hHeld => ?_)
  · (first | exact ⟨A8, M8⟩ | exact ⟨A7, M7⟩ | exact ⟨A9A, M9A⟩ | exact ⟨A9, M9⟩ | exact ⟨B_a.drew, B_m.drew⟩)
  clear hK K
  (try simp only [Act.put, List.setIfInBounds_toArray, List.set_cons_zero, List.set_cons_succ])
  refine wpAnyH_take (i := 10) (oi := { dst := some 41, op := _, type := _, pos := _, after := _, guard := _ }) (v := ?v10_37) rfl (by kernel_rfl) (by kernel_rfl) (by kernel_rfl) (fun _ _ _ h => h) (Or.inl ⟨by rfl, ?hy10_37⟩) hHeld ?rest10_37
  case hy10_37 => (intro w _; first | (go_simp; done) | (go_simp; with_reducible rfl) | (with_reducible rfl))
  (try simp only [Act.put, List.setIfInBounds_toArray, List.set_cons_zero, List.set_cons_succ])
  refine wpAnyH_ready (rs := [11]) (by kernel_rfl) (by simp) ?_
  refine AllReadyH.cons (o := { dst := none, op := _, type := _, pos := _, after := _, guard := _ }) rfl (fun K hK => ?_) ?_
  have G8 : Only [w2'.heap.size] w7 (w7.setCell ⟨w2'.heap.size, 8, none⟩ (.slice a7 (y.hn + 1) c7)) := (Only.refl _ _).setCell ⟨w2'.heap.size, 8, none⟩ _ (by simp)
  have A8 := Blk.only A7 G8 (by simp; omega)
  have M8 := Blk.only M7 G8 (by simp; omega)
  have B8 := B7.set_ 8 (.slice a7 (y.hn + 1) c7)
  have k7 := B8.frozen 7
  go_simp
  refine hK.out _ _ ?_ (fun hHeld => ?_)
  · (first | exact ⟨A8, M8⟩ | exact ⟨A7, M7⟩ | exact ⟨A9A, M9A⟩ | exact ⟨A9, M9⟩ | exact ⟨B_a.drew, B_m.drew⟩)
  clear hK K
  (try simp only [Act.put, List.setIfInBounds_toArray, List.set_cons_zero, List.set_cons_succ])
  refine wpAnyH_take (i := 12) (oi := { dst := some 42, op := _, type := _, pos := _, after := _, guard := _ }) (v := ?v12_38) rfl (by kernel_rfl) (by kernel_rfl) (by kernel_rfl) (fun _ _ _ h => h) (Or.inl ⟨by rfl, ?hy12_38⟩) hHeld ?rest12_38
  case hy12_38 => (intro w _; first | (go_simp; done) | (go_simp; with_reducible rfl) | (with_reducible rfl))
  (try simp only [Act.put, List.setIfInBounds_toArray, List.set_cons_zero, List.set_cons_succ])
  refine wpAnyH_ready (rs := [13]) (by kernel_rfl) (by simp) ?_
  refine AllReadyH.cons (o := { dst := none, op := _, type := _, pos := _, after := _, guard := _ }) rfl (fun K hK => ?_) ?_
  go_simp
  refine hK.out _ _ ?_ (fun hHeld => ?_)
  · (exact ⟨Blk.only A8 ((Only.refl [w2'.heap.size] _).setCell ⟨w2'.heap.size, 7, none⟩ _ (by simp)) (by simp; omega), Blk.only M8 ((Only.refl [w2'.heap.size] _).setCell ⟨w2'.heap.size, 7, none⟩ _ (by simp)) (by simp; omega)⟩)
  clear hK K
  (try simp only [Act.put, List.setIfInBounds_toArray, List.set_cons_zero, List.set_cons_succ])
  refine wpAnyH_done (by kernel_rfl) ?_ _
  refine NoPanic.normal ?_
  rotate_left 1
  exact AllReadyH.nil
  exact AllReadyH.nil
  exact AllReadyH.nil
  exact AllReadyH.nil
  exact AllReadyH.nil
  exact AllReadyH.nil
  all_goals
    have own4 := own3.push (r := (b9, d9, body)) o11 hdj oc g7 m7
    have hd5 : datas' (rs ++ [(b9, d9, body)]) = a.heard ++ [body] := by rw [← hd.out]; simp [datas']
    replace hd5 := Lib.hid hd5
    have uA : Below w5'.heap.size w5' wz := (Below.refl _ _).drew.trans u9
    have Q9 := Lib.hid o9.feet
    have SW := V_w5'.size
    have E5 : Disj (foot y.sa y.sc) (feetSS a7 c7 (rs ++ [(b9, d9, body)])) := push_feet D58 (fun q hq hq' => by have := Q_o5.out q hq; have := (Q9.out q hq').1; simp at this; omega) m7 (fun q hq => by have := Q_o5.out q hq; have := uA.size; simp; omega)
    have E6 : Disj (foot y.ka y.kc) (feetSS a7 c7 (rs ++ [(b9, d9, body)])) := push_feet D68 (fun q hq hq' => by have := Q_o6.out q hq; have := (Q9.out q hq').1; simp at this; omega) m7 (fun q hq => by have := Q_o6.out q hq; have := uA.size; simp; omega)
    have E7 : Disj [w2'.heap.size] (feetSS a7 c7 (rs ++ [(b9, d9, body)])) := push_feet (fun q hq hq' => by have := Q_o8.out q hq'; simp at hq; omega) (fun q hq hq' => by have := (Q9.out q hq').1; simp at this hq; omega) m7 (fun q hq => by have := uA.size; simp at hq ⊢; omega)
    have Q_own4 := Lib.hid (fun q (hq : q ∈ feetSS a7 c7 (rs ++ [(b9, d9, body)])) => (show (w.heap.size + 3 ≤ q ∧ q < w7.heap.size) ∧ q ≠ w2'.heap.size from ⟨own4.feet q hq, fun e => E7 q (by simp [e]) hq⟩))
    clear own2 o9 o10 o11 own3 oc u9 m7 hdj LIT OO szz A9 M9 B9 A9A M9A B9A g9b g9B A7 M7 B7 j8 j7 f8 f7 G8 A8 M8 B8 k7 hM7 Q9 o8
    clear e_a_7 e_m_2 e_b_8 f_b_8 e_b_7 f_b_7
    replace B_a := B_a.below uA
    replace B_m := B_m.below uA
    replace B_r := B_r.below uA
    replace B_b := B_b.below uA
    replace o5 := o5.below uA
    replace o6 := o6.below uA
    have S_wz := uA.size
    have V_wz : Below w.heap.size w wz := V_w5'.trans (uA.mono V_w5'.size)
    clear V_w5'
    clear uA
    have V_w6'_1 : Below w.heap.size w (wz.alloc (.cells #[.slice b9 body.length d9] 23)) := (V_wz).alloc (by have := (V_wz).size; first | exact this | (simp at *; omega)) _
    replace B_a := B_a.alloc (.cells #[.slice b9 body.length d9] 23)
    replace B_m := B_m.alloc (.cells #[.slice b9 body.length d9] 23)
    replace B_r := B_r.alloc (.cells #[.slice b9 body.length d9] 23)
    replace B_b := B_b.alloc (.cells #[.slice b9 body.length d9] 23)
    replace o5 := o5.alloc (.cells #[.slice b9 body.length d9] 23)
    replace o6 := o6.alloc (.cells #[.slice b9 body.length d9] 23)
    have B_z : Blk (wz.alloc (.cells #[.slice b9 body.length d9] 23)) (wz.heap.size) 23 #[.slice b9 body.length d9] := by exact Blk.new wz 23 #[.slice b9 body.length d9]
    have S_w6' : wz.heap.size + 1 ≤ (wz.alloc (.cells #[.slice b9 body.length d9] 23)).heap.size := by first | (simp; done) | (simp; omega) | (simp [World.setCell]; done) | (simp [World.setCell]; omega)
    generalize (wz.alloc (.cells #[.slice b9 body.length d9] 23)) = w6' at *
    have V_w6' : Below w.heap.size w w6' := V_w6'_1
    clear V_wz
    clear V_w6'_1
    clear B_z
    have oG := Only.of_grown g7
    have V_w7 : Below w.heap.size w w7 := V_w6'.trans (u7.mono (show w.heap.size ≤ w.heap.size + 3 by omega))
    replace B_a := Blk.only B_a oG (fun hq => by have := NN _ hq; omega)
    replace B_m := Blk.only B_m oG (fun hq => by have := NN _ hq; omega)
    replace B_r := Blk.only B_r oG (fun hq => by have := NN _ hq; omega)
    replace B_b := Blk.only B_b oG (fun hq => by have := NN _ hq; omega)
    replace o5 := OwnF.only o5 oG (fun q hq hq' => D58 q hq (List.mem_append_left _ hq'))
    replace o6 := o6.only oG (fun q hq hq' => D68 q hq (List.mem_append_left _ hq'))
    have SLw := oG.size
    clear oG u7 g7 NN
    have g_1 : Only [w2'.heap.size] w7 (w7.setCell ⟨w2'.heap.size, 8, none⟩ (.slice a7 (y.hn + 1) c7)) := (Only.refl _ _).setCell _ _ (by simp)
    replace B_b := B_b.set_ 8 (.slice a7 (y.hn + 1) c7)
    generalize w7.setCell ⟨w2'.heap.size, 8, none⟩ (.slice a7 (y.hn + 1) c7) = w7_1' at *
    have G := g_1
    clear g_1
    have g_2 : Only [w2'.heap.size] w7_1' (w7_1'.setCell ⟨w2'.heap.size, 7, none⟩ (.int .i64 (a.step + 1))) := (Only.refl _ _).setCell _ _ (by simp)
    replace B_b := B_b.set_ 7 (.int .i64 (a.step + 1))
    generalize w7_1'.setCell ⟨w2'.heap.size, 7, none⟩ (.int .i64 (a.step + 1)) = w7' at *
    replace G := G.trans g_2
    clear g_2
    simp only [List.setIfInBounds_toArray, List.set_cons_zero, List.set_cons_succ] at B_b
    have V_w7' : Below w.heap.size w w7' := (V_w7).trans (G.below (V_w7).size (fun q hq => by have := (V_w7).size; simp at hq; omega))
    replace B_a := B_a.only G (by first | (simp; done) | (simp; omega))
    replace B_m := B_m.only G (by first | (simp; done) | (simp; omega))
    replace B_r := B_r.only G (by first | (simp; done) | (simp; omega))
    replace o5 := o5.only G (fun q hq hq' => by have := Q_o5.out q hq; simp at hq'; omega)
    replace o6 := o6.only G (fun q hq hq' => by have := Q_o6.out q hq; simp at hq'; omega)
    replace own4 := own4.only G (fun q hq hq' => by have := Q_own4.out q hq; simp at hq'; omega)
    have sG0 := G.size
    clear G
    clear V_w7
    have S_w7' : w7.heap.size + 0 ≤ w7'.heap.size := by omega
    clear sG0
    have e_b_0 : w7'.cell? ⟨w2'.heap.size, 0, none⟩ = some (.int .i64 a.P) := B_b.cell 0
    have e_b_1 : w7'.cell? ⟨w2'.heap.size, 1, none⟩ = some (.int .i64 a.party) := B_b.cell 1
    have e_b_2 : w7'.cell? ⟨w2'.heap.size, 2, none⟩ = some (.int .i64 a.input) := B_b.cell 2
    have e_b_3 : w7'.cell? ⟨w2'.heap.size, 3, none⟩ = some (.int .i64 a.mask) := B_b.cell 3
    have e_b_4 : w7'.cell? ⟨w2'.heap.size, 4, none⟩ = some (.int .i64 a.delta) := B_b.cell 4
    have e_b_5 : w7'.cell? ⟨w2'.heap.size, 5, none⟩ = some (.slice y.sa y.sn y.sc) := B_b.cell 5
    have e_b_6 : w7'.cell? ⟨w2'.heap.size, 6, none⟩ = some (.slice y.ka y.kn y.kc) := B_b.cell 6
    have e_b_7 : w7'.cell? ⟨w2'.heap.size, 7, none⟩ = some (.int .i64 (a.step + 1)) := B_b.cell 7
    have e_b_8 : w7'.cell? ⟨w2'.heap.size, 8, none⟩ = some (.slice a7 (y.hn + 1) c7) := B_b.cell 8
    have e_b_9 : w7'.cell? ⟨w2'.heap.size, 9, none⟩ = some (.int .i64 1) := B_b.cell 9
    have e_b_10 : w7'.cell? ⟨w2'.heap.size, 10, none⟩ = some (.int .i64 ((th + b0) % a.P)) := B_b.cell 10
    have e_r_0 : w7'.cell? ⟨w.heap.size + 2, 0, none⟩ = some (.int .i64 0) := B_r.cell 0
    have f_r_0 : w7'.frozen? ⟨w.heap.size + 2, 0, none⟩ = false := B_r.frozen 0
    have e_r_1 : w7'.cell? ⟨w.heap.size + 2, 1, none⟩ = some (.int .i64 0) := B_r.cell 1
    have f_r_1 : w7'.frozen? ⟨w.heap.size + 2, 1, none⟩ = false := B_r.frozen 1
    have e_r_2 : w7'.cell? ⟨w.heap.size + 2, 2, none⟩ = some (.int .i64 0) := B_r.cell 2
    have f_r_2 : w7'.frozen? ⟨w.heap.size + 2, 2, none⟩ = false := B_r.frozen 2
    have e_r_3 : w7'.cell? ⟨w.heap.size + 2, 3, none⟩ = some (.int .i64 0) := B_r.cell 3
    have f_r_3 : w7'.frozen? ⟨w.heap.size + 2, 3, none⟩ = false := B_r.frozen 3
    have e_r_4 : w7'.cell? ⟨w.heap.size + 2, 4, none⟩ = some (.int .i64 0) := B_r.cell 4
    have f_r_4 : w7'.frozen? ⟨w.heap.size + 2, 4, none⟩ = false := B_r.frozen 4
    have e_r_5 : w7'.cell? ⟨w.heap.size + 2, 5, none⟩ = some (.slice none 0 0) := B_r.cell 5
    have f_r_5 : w7'.frozen? ⟨w.heap.size + 2, 5, none⟩ = false := B_r.frozen 5
    have e_r_6 : w7'.cell? ⟨w.heap.size + 2, 6, none⟩ = some (.slice none 0 0) := B_r.cell 6
    have f_r_6 : w7'.frozen? ⟨w.heap.size + 2, 6, none⟩ = false := B_r.frozen 6
    have e_r_7 : w7'.cell? ⟨w.heap.size + 2, 7, none⟩ = some (.int .i64 0) := B_r.cell 7
    have f_r_7 : w7'.frozen? ⟨w.heap.size + 2, 7, none⟩ = false := B_r.frozen 7
    have e_r_8 : w7'.cell? ⟨w.heap.size + 2, 8, none⟩ = some (.slice none 0 0) := B_r.cell 8
    have f_r_8 : w7'.frozen? ⟨w.heap.size + 2, 8, none⟩ = false := B_r.frozen 8
    have e_r_9 : w7'.cell? ⟨w.heap.size + 2, 9, none⟩ = some (.int .i64 0) := B_r.cell 9
    have f_r_9 : w7'.frozen? ⟨w.heap.size + 2, 9, none⟩ = false := B_r.frozen 9
    have e_r_10 : w7'.cell? ⟨w.heap.size + 2, 10, none⟩ = some (.int .i64 0) := B_r.cell 10
    have f_r_10 : w7'.frozen? ⟨w.heap.size + 2, 10, none⟩ = false := B_r.frozen 10
    go_wp2
    clear e_b_0 e_b_1 e_b_2 e_b_3 e_b_4 e_b_5 e_b_6 e_b_7 e_b_8 e_b_9 e_b_10 e_r_0 f_r_0 e_r_1 f_r_1 e_r_2 f_r_2 e_r_3 f_r_3 e_r_4 f_r_4 e_r_5 f_r_5 e_r_6 f_r_6 e_r_7 f_r_7 e_r_8 f_r_8 e_r_9 f_r_9 e_r_10 f_r_10
    have g_1 : Only [w.heap.size + 2] w7' (w7'.setCell ⟨w.heap.size + 2, 0, none⟩ (.int .i64 a.P)) := (Only.refl _ _).setCell _ _ (by simp)
    replace B_r := B_r.set_ 0 (.int .i64 a.P)
    generalize w7'.setCell ⟨w.heap.size + 2, 0, none⟩ (.int .i64 a.P) = w8_1' at *
    have G := g_1
    clear g_1
    have g_2 : Only [w.heap.size + 2] w8_1' (w8_1'.setCell ⟨w.heap.size + 2, 1, none⟩ (.int .i64 a.party)) := (Only.refl _ _).setCell _ _ (by simp)
    replace B_r := B_r.set_ 1 (.int .i64 a.party)
    generalize w8_1'.setCell ⟨w.heap.size + 2, 1, none⟩ (.int .i64 a.party) = w8_2' at *
    replace G := G.trans g_2
    clear g_2
    have g_3 : Only [w.heap.size + 2] w8_2' (w8_2'.setCell ⟨w.heap.size + 2, 2, none⟩ (.int .i64 a.input)) := (Only.refl _ _).setCell _ _ (by simp)
    replace B_r := B_r.set_ 2 (.int .i64 a.input)
    generalize w8_2'.setCell ⟨w.heap.size + 2, 2, none⟩ (.int .i64 a.input) = w8_3' at *
    replace G := G.trans g_3
    clear g_3
    have g_4 : Only [w.heap.size + 2] w8_3' (w8_3'.setCell ⟨w.heap.size + 2, 3, none⟩ (.int .i64 a.mask)) := (Only.refl _ _).setCell _ _ (by simp)
    replace B_r := B_r.set_ 3 (.int .i64 a.mask)
    generalize w8_3'.setCell ⟨w.heap.size + 2, 3, none⟩ (.int .i64 a.mask) = w8_4' at *
    replace G := G.trans g_4
    clear g_4
    have g_5 : Only [w.heap.size + 2] w8_4' (w8_4'.setCell ⟨w.heap.size + 2, 4, none⟩ (.int .i64 a.delta)) := (Only.refl _ _).setCell _ _ (by simp)
    replace B_r := B_r.set_ 4 (.int .i64 a.delta)
    generalize w8_4'.setCell ⟨w.heap.size + 2, 4, none⟩ (.int .i64 a.delta) = w8_5' at *
    replace G := G.trans g_5
    clear g_5
    have g_6 : Only [w.heap.size + 2] w8_5' (w8_5'.setCell ⟨w.heap.size + 2, 5, none⟩ (.slice y.sa y.sn y.sc)) := (Only.refl _ _).setCell _ _ (by simp)
    replace B_r := B_r.set_ 5 (.slice y.sa y.sn y.sc)
    generalize w8_5'.setCell ⟨w.heap.size + 2, 5, none⟩ (.slice y.sa y.sn y.sc) = w8_6' at *
    replace G := G.trans g_6
    clear g_6
    have g_7 : Only [w.heap.size + 2] w8_6' (w8_6'.setCell ⟨w.heap.size + 2, 6, none⟩ (.slice y.ka y.kn y.kc)) := (Only.refl _ _).setCell _ _ (by simp)
    replace B_r := B_r.set_ 6 (.slice y.ka y.kn y.kc)
    generalize w8_6'.setCell ⟨w.heap.size + 2, 6, none⟩ (.slice y.ka y.kn y.kc) = w8_7' at *
    replace G := G.trans g_7
    clear g_7
    have g_8 : Only [w.heap.size + 2] w8_7' (w8_7'.setCell ⟨w.heap.size + 2, 7, none⟩ (.int .i64 (a.step + 1))) := (Only.refl _ _).setCell _ _ (by simp)
    replace B_r := B_r.set_ 7 (.int .i64 (a.step + 1))
    generalize w8_7'.setCell ⟨w.heap.size + 2, 7, none⟩ (.int .i64 (a.step + 1)) = w8_8' at *
    replace G := G.trans g_8
    clear g_8
    have g_9 : Only [w.heap.size + 2] w8_8' (w8_8'.setCell ⟨w.heap.size + 2, 8, none⟩ (.slice a7 (y.hn + 1) c7)) := (Only.refl _ _).setCell _ _ (by simp)
    replace B_r := B_r.set_ 8 (.slice a7 (y.hn + 1) c7)
    generalize w8_8'.setCell ⟨w.heap.size + 2, 8, none⟩ (.slice a7 (y.hn + 1) c7) = w8_9' at *
    replace G := G.trans g_9
    clear g_9
    have g_10 : Only [w.heap.size + 2] w8_9' (w8_9'.setCell ⟨w.heap.size + 2, 9, none⟩ (.int .i64 1)) := (Only.refl _ _).setCell _ _ (by simp)
    replace B_r := B_r.set_ 9 (.int .i64 1)
    generalize w8_9'.setCell ⟨w.heap.size + 2, 9, none⟩ (.int .i64 1) = w8_10' at *
    replace G := G.trans g_10
    clear g_10
    have g_11 : Only [w.heap.size + 2] w8_10' (w8_10'.setCell ⟨w.heap.size + 2, 10, none⟩ (.int .i64 ((th + b0) % a.P))) := (Only.refl _ _).setCell _ _ (by simp)
    replace B_r := B_r.set_ 10 (.int .i64 ((th + b0) % a.P))
    generalize w8_10'.setCell ⟨w.heap.size + 2, 10, none⟩ (.int .i64 ((th + b0) % a.P)) = w8' at *
    replace G := G.trans g_11
    clear g_11
    simp only [List.setIfInBounds_toArray, List.set_cons_zero, List.set_cons_succ] at B_r
    have V_w8' : Below w.heap.size w w8' := (V_w7').trans (G.below (V_w7').size (fun q hq => by have := (V_w7').size; simp at hq; omega))
    replace B_a := B_a.only G (by first | (simp; done) | (simp; omega))
    replace B_m := B_m.only G (by first | (simp; done) | (simp; omega))
    replace B_b := B_b.only G (by first | (simp; done) | (simp; omega))
    replace o5 := o5.only G (fun q hq hq' => by have := Q_o5.out q hq; simp at hq'; omega)
    replace o6 := o6.only G (fun q hq hq' => by have := Q_o6.out q hq; simp at hq'; omega)
    replace own4 := own4.only G (fun q hq hq' => by have := Q_own4.out q hq; simp at hq'; omega)
    have sG0 := G.size
    clear G
    clear V_w7'
    have S_w8' : w7'.heap.size + 0 ≤ w8'.heap.size := by omega
    clear sG0
    have e_r_0 : w8'.cell? ⟨w.heap.size + 2, 0, none⟩ = some (.int .i64 a.P) := B_r.cell 0
    have e_r_1 : w8'.cell? ⟨w.heap.size + 2, 1, none⟩ = some (.int .i64 a.party) := B_r.cell 1
    have e_r_2 : w8'.cell? ⟨w.heap.size + 2, 2, none⟩ = some (.int .i64 a.input) := B_r.cell 2
    have e_r_3 : w8'.cell? ⟨w.heap.size + 2, 3, none⟩ = some (.int .i64 a.mask) := B_r.cell 3
    have e_r_4 : w8'.cell? ⟨w.heap.size + 2, 4, none⟩ = some (.int .i64 a.delta) := B_r.cell 4
    have e_r_5 : w8'.cell? ⟨w.heap.size + 2, 5, none⟩ = some (.slice y.sa y.sn y.sc) := B_r.cell 5
    have e_r_6 : w8'.cell? ⟨w.heap.size + 2, 6, none⟩ = some (.slice y.ka y.kn y.kc) := B_r.cell 6
    have e_r_7 : w8'.cell? ⟨w.heap.size + 2, 7, none⟩ = some (.int .i64 (a.step + 1)) := B_r.cell 7
    have e_r_8 : w8'.cell? ⟨w.heap.size + 2, 8, none⟩ = some (.slice a7 (y.hn + 1) c7) := B_r.cell 8
    have e_r_9 : w8'.cell? ⟨w.heap.size + 2, 9, none⟩ = some (.int .i64 1) := B_r.cell 9
    have e_r_10 : w8'.cell? ⟨w.heap.size + 2, 10, none⟩ = some (.int .i64 ((th + b0) % a.P)) := B_r.cell 10
    exact bodyPost_ret (v := .agg #[.int .i64 a.P, .int .i64 a.party, .int .i64 a.input, .int .i64 a.mask, .int .i64 a.delta, .slice y.sa y.sn y.sc, .slice y.ka y.kn y.kc, .int .i64 (a.step + 1), .slice a7 (y.hn + 1) c7, .int .i64 1, .int .i64 ((th + b0) % a.P)]) (by simp [results, Tryd.results92, go_sem, e_r_0, e_r_1, e_r_2, e_r_3, e_r_4, e_r_5, e_r_6, e_r_7, e_r_8, e_r_9, e_r_10]) rfl ⟨⟨y.sa, y.sn, y.sc, y.ka, y.kn, y.kc, a7, y.hn + 1, c7⟩, _, rfl, ⟨OwnF.lower o5 (by omega), o6.lower (by omega), _, own4.lower (by omega), hd5.out, D56, E5, E6, rfl⟩, V_w8'⟩
end Go.Proofs.YtlmdckcohoddnaaDoor
