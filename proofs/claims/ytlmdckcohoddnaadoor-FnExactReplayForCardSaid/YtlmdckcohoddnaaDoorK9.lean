/- Lemmas and walks that the claim's proof rests on, part 9. -/
import Derived.Test.YtlmdckcohoddnaaDoorK4
import Derived.Test.YtlmdckcohoddnaaDoorK8
namespace Go.Proofs.YtlmdckcohoddnaaDoor
open Go.RowKit
set_option maxHeartbeats 16000000 in
set_option maxRecDepth 100000 in
theorem take_go (a : Pl) (x : PlX) (fr st : Int) (b : Option Addr) (n c : Nat) (body : List Int) (w : World) (h : PlR w x a.shares a.keys a.heard) (hM : Ints w b n c body) (hT : Tbl w) (hN : PlN a) (hs : a.step ≤ 2) (hacc : accB a fr st body = true) (h2 : a.step < 2) :
    Calls Tryd.prog 92 #[.agg #[.int .i64 a.P, .int .i64 a.party, .int .i64 a.input, .int .i64 a.mask, .int .i64 a.delta, .slice x.sa x.sn x.sc, .slice x.ka x.kn x.kc, .int .i64 a.step, .slice x.ha x.hn x.hc, .int .i64 a.status, .int .i64 a.out], .agg #[.int .i64 fr, .int .i64 st, .slice b n c]] w fun e w' => ∃ y F, e = .returned (.agg #[.int .i64 a.P, .int .i64 a.party, .int .i64 a.input, .int .i64 a.mask, .int .i64 a.delta, .slice y.sa y.sn y.sc, .slice y.ka y.kn y.kc, .int .i64 (a.step + 1), .slice y.ha y.hn y.hc, .int .i64 a.status, .int .i64 a.out]) ∧ PlO w' w.heap.size y a.shares a.keys (a.heard ++ [body]) F ∧ Below w.heap.size w w' := by
  have hnb := hM.len
  subst hnb
  obtain ⟨hbl, hbr⟩ := acc_parts hacc
  have CA := Lib.hid (fun (W : World) (h2 : PlR W x a.shares a.keys a.heard) (h3 : Ints W b body.length c body) (h4 : Tbl W) => accepts_any a x fr st b body.length c body W h2 h3 h4 hN hs)
  rw [hacc] at CA
  have CP := Lib.hid (fun (W : World) (h2 : PlR W x a.shares a.keys a.heard) => copyPlayer_any a x W h2 hN)
  have LH := Lib.hid h
  have LM := Lib.hid hM
  have LX := Lib.hid hT
  have hst := hN.stp
  have hn4 : body.length ≤ 10000000 := by rw [hbl]; have := (blen_bd a.step.toNat).2; omega
  have t1 : IntKind.i64.wrap (a.step + 1) = a.step + 1 := IntWalk.i64_in _ (by omega)
  have hhl := hN.hl
  have d1 : ((a.step == 2) : Bool) = false := by simp; omega
  clear h hM hT hs hN hacc hbl hbr
  go_enter Tryd.func92, Tryd.ntmps92
  go_wp2_with fail
  have V_w1'_1 : Below w.heap.size w (w.alloc (.cells #[.int .i64 a.P, .int .i64 a.party, .int .i64 a.input, .int .i64 a.mask, .int .i64 a.delta, .slice x.sa x.sn x.sc, .slice x.ka x.kn x.kc, .int .i64 a.step, .slice x.ha x.hn x.hc, .int .i64 a.status, .int .i64 a.out] 31)) := ((Below.refl w.heap.size w)).alloc (by have := ((Below.refl w.heap.size w)).size; first | exact this | (simp at *; omega)) _
  have B_a : Blk (w.alloc (.cells #[.int .i64 a.P, .int .i64 a.party, .int .i64 a.input, .int .i64 a.mask, .int .i64 a.delta, .slice x.sa x.sn x.sc, .slice x.ka x.kn x.kc, .int .i64 a.step, .slice x.ha x.hn x.hc, .int .i64 a.status, .int .i64 a.out] 31)) (w.heap.size) 31 #[.int .i64 a.P, .int .i64 a.party, .int .i64 a.input, .int .i64 a.mask, .int .i64 a.delta, .slice x.sa x.sn x.sc, .slice x.ka x.kn x.kc, .int .i64 a.step, .slice x.ha x.hn x.hc, .int .i64 a.status, .int .i64 a.out] := by exact Blk.new w 31 #[.int .i64 a.P, .int .i64 a.party, .int .i64 a.input, .int .i64 a.mask, .int .i64 a.delta, .slice x.sa x.sn x.sc, .slice x.ka x.kn x.kc, .int .i64 a.step, .slice x.ha x.hn x.hc, .int .i64 a.status, .int .i64 a.out]
  have V_w1'_2 : Below w.heap.size w ((w.alloc (.cells #[.int .i64 a.P, .int .i64 a.party, .int .i64 a.input, .int .i64 a.mask, .int .i64 a.delta, .slice x.sa x.sn x.sc, .slice x.ka x.kn x.kc, .int .i64 a.step, .slice x.ha x.hn x.hc, .int .i64 a.status, .int .i64 a.out] 31)).alloc (.cells #[.int .i64 fr, .int .i64 st, .slice b body.length c] 44)) := (V_w1'_1).alloc (by have := (V_w1'_1).size; first | exact this | (simp at *; omega)) _
  replace B_a := B_a.alloc (.cells #[.int .i64 fr, .int .i64 st, .slice b body.length c] 44)
  have B_m : Blk ((w.alloc (.cells #[.int .i64 a.P, .int .i64 a.party, .int .i64 a.input, .int .i64 a.mask, .int .i64 a.delta, .slice x.sa x.sn x.sc, .slice x.ka x.kn x.kc, .int .i64 a.step, .slice x.ha x.hn x.hc, .int .i64 a.status, .int .i64 a.out] 31)).alloc (.cells #[.int .i64 fr, .int .i64 st, .slice b body.length c] 44)) (w.heap.size + 1) 44 #[.int .i64 fr, .int .i64 st, .slice b body.length c] := by simpa [World.setCell] using (Blk.new (w.alloc (.cells #[.int .i64 a.P, .int .i64 a.party, .int .i64 a.input, .int .i64 a.mask, .int .i64 a.delta, .slice x.sa x.sn x.sc, .slice x.ka x.kn x.kc, .int .i64 a.step, .slice x.ha x.hn x.hc, .int .i64 a.status, .int .i64 a.out] 31)) 44 #[.int .i64 fr, .int .i64 st, .slice b body.length c])
  have V_w1'_3 : Below w.heap.size w (((w.alloc (.cells #[.int .i64 a.P, .int .i64 a.party, .int .i64 a.input, .int .i64 a.mask, .int .i64 a.delta, .slice x.sa x.sn x.sc, .slice x.ka x.kn x.kc, .int .i64 a.step, .slice x.ha x.hn x.hc, .int .i64 a.status, .int .i64 a.out] 31)).alloc (.cells #[.int .i64 fr, .int .i64 st, .slice b body.length c] 44)).alloc (.cells #[.int .i64 0, .int .i64 0, .int .i64 0, .int .i64 0, .int .i64 0, .slice none 0 0, .slice none 0 0, .int .i64 0, .slice none 0 0, .int .i64 0, .int .i64 0] 31)) := (V_w1'_2).alloc (by have := (V_w1'_2).size; first | exact this | (simp at *; omega)) _
  replace B_a := B_a.alloc (.cells #[.int .i64 0, .int .i64 0, .int .i64 0, .int .i64 0, .int .i64 0, .slice none 0 0, .slice none 0 0, .int .i64 0, .slice none 0 0, .int .i64 0, .int .i64 0] 31)
  replace B_m := B_m.alloc (.cells #[.int .i64 0, .int .i64 0, .int .i64 0, .int .i64 0, .int .i64 0, .slice none 0 0, .slice none 0 0, .int .i64 0, .slice none 0 0, .int .i64 0, .int .i64 0] 31)
  have B_r : Blk (((w.alloc (.cells #[.int .i64 a.P, .int .i64 a.party, .int .i64 a.input, .int .i64 a.mask, .int .i64 a.delta, .slice x.sa x.sn x.sc, .slice x.ka x.kn x.kc, .int .i64 a.step, .slice x.ha x.hn x.hc, .int .i64 a.status, .int .i64 a.out] 31)).alloc (.cells #[.int .i64 fr, .int .i64 st, .slice b body.length c] 44)).alloc (.cells #[.int .i64 0, .int .i64 0, .int .i64 0, .int .i64 0, .int .i64 0, .slice none 0 0, .slice none 0 0, .int .i64 0, .slice none 0 0, .int .i64 0, .int .i64 0] 31)) (w.heap.size + 2) 31 #[.int .i64 0, .int .i64 0, .int .i64 0, .int .i64 0, .int .i64 0, .slice none 0 0, .slice none 0 0, .int .i64 0, .slice none 0 0, .int .i64 0, .int .i64 0] := by simpa [World.setCell] using (Blk.new ((w.alloc (.cells #[.int .i64 a.P, .int .i64 a.party, .int .i64 a.input, .int .i64 a.mask, .int .i64 a.delta, .slice x.sa x.sn x.sc, .slice x.ka x.kn x.kc, .int .i64 a.step, .slice x.ha x.hn x.hc, .int .i64 a.status, .int .i64 a.out] 31)).alloc (.cells #[.int .i64 fr, .int .i64 st, .slice b body.length c] 44)) 31 #[.int .i64 0, .int .i64 0, .int .i64 0, .int .i64 0, .int .i64 0, .slice none 0 0, .slice none 0 0, .int .i64 0, .slice none 0 0, .int .i64 0, .int .i64 0])
  have S_w1' : w.heap.size + 3 ≤ (((w.alloc (.cells #[.int .i64 a.P, .int .i64 a.party, .int .i64 a.input, .int .i64 a.mask, .int .i64 a.delta, .slice x.sa x.sn x.sc, .slice x.ka x.kn x.kc, .int .i64 a.step, .slice x.ha x.hn x.hc, .int .i64 a.status, .int .i64 a.out] 31)).alloc (.cells #[.int .i64 fr, .int .i64 st, .slice b body.length c] 44)).alloc (.cells #[.int .i64 0, .int .i64 0, .int .i64 0, .int .i64 0, .int .i64 0, .slice none 0 0, .slice none 0 0, .int .i64 0, .slice none 0 0, .int .i64 0, .int .i64 0] 31)).heap.size := by first | (simp; done) | (simp; omega) | (simp [World.setCell]; done) | (simp [World.setCell]; omega)
  generalize (((w.alloc (.cells #[.int .i64 a.P, .int .i64 a.party, .int .i64 a.input, .int .i64 a.mask, .int .i64 a.delta, .slice x.sa x.sn x.sc, .slice x.ka x.kn x.kc, .int .i64 a.step, .slice x.ha x.hn x.hc, .int .i64 a.status, .int .i64 a.out] 31)).alloc (.cells #[.int .i64 fr, .int .i64 st, .slice b body.length c] 44)).alloc (.cells #[.int .i64 0, .int .i64 0, .int .i64 0, .int .i64 0, .int .i64 0, .slice none 0 0, .slice none 0 0, .int .i64 0, .slice none 0 0, .int .i64 0, .int .i64 0] 31)) = w1' at *
  clear V_w1'_1 V_w1'_2
  have V_w1' : Below w.heap.size w w1' := V_w1'_3
  clear V_w1'_3
  refine (CP.out _ (LH.out.below V_w1')).mono ?_
  rintro e w2' ⟨y, F, rfl, o, u_w2'⟩
  replace B_a := B_a.below u_w2'
  replace B_m := B_m.below u_w2'
  replace B_r := B_r.below u_w2'
  have S_w2' := u_w2'.size
  have V_w2' : Below w.heap.size w w2' := V_w1'.trans (u_w2'.mono V_w1'.size)
  clear V_w1'
  clear u_w2'
  replace o := o.lower (b' := w.heap.size + 3) S_w1'
  have Q_o := Lib.hid o.feet
  go_upto_region 2 with fail
  have V_w3'_1 : Below w.heap.size w (w2'.alloc (.cells #[.int .i64 a.P, .int .i64 a.party, .int .i64 a.input, .int .i64 a.mask, .int .i64 a.delta, .slice y.sa y.sn y.sc, .slice y.ka y.kn y.kc, .int .i64 a.step, .slice y.ha y.hn y.hc, .int .i64 a.status, .int .i64 a.out] 31)) := (V_w2').alloc (by have := (V_w2').size; first | exact this | (simp at *; omega)) _
  replace B_a := B_a.alloc (.cells #[.int .i64 a.P, .int .i64 a.party, .int .i64 a.input, .int .i64 a.mask, .int .i64 a.delta, .slice y.sa y.sn y.sc, .slice y.ka y.kn y.kc, .int .i64 a.step, .slice y.ha y.hn y.hc, .int .i64 a.status, .int .i64 a.out] 31)
  replace B_m := B_m.alloc (.cells #[.int .i64 a.P, .int .i64 a.party, .int .i64 a.input, .int .i64 a.mask, .int .i64 a.delta, .slice y.sa y.sn y.sc, .slice y.ka y.kn y.kc, .int .i64 a.step, .slice y.ha y.hn y.hc, .int .i64 a.status, .int .i64 a.out] 31)
  replace B_r := B_r.alloc (.cells #[.int .i64 a.P, .int .i64 a.party, .int .i64 a.input, .int .i64 a.mask, .int .i64 a.delta, .slice y.sa y.sn y.sc, .slice y.ka y.kn y.kc, .int .i64 a.step, .slice y.ha y.hn y.hc, .int .i64 a.status, .int .i64 a.out] 31)
  replace o := o.alloc (.cells #[.int .i64 a.P, .int .i64 a.party, .int .i64 a.input, .int .i64 a.mask, .int .i64 a.delta, .slice y.sa y.sn y.sc, .slice y.ka y.kn y.kc, .int .i64 a.step, .slice y.ha y.hn y.hc, .int .i64 a.status, .int .i64 a.out] 31)
  have B_b : Blk (w2'.alloc (.cells #[.int .i64 a.P, .int .i64 a.party, .int .i64 a.input, .int .i64 a.mask, .int .i64 a.delta, .slice y.sa y.sn y.sc, .slice y.ka y.kn y.kc, .int .i64 a.step, .slice y.ha y.hn y.hc, .int .i64 a.status, .int .i64 a.out] 31)) (w2'.heap.size) 31 #[.int .i64 a.P, .int .i64 a.party, .int .i64 a.input, .int .i64 a.mask, .int .i64 a.delta, .slice y.sa y.sn y.sc, .slice y.ka y.kn y.kc, .int .i64 a.step, .slice y.ha y.hn y.hc, .int .i64 a.status, .int .i64 a.out] := by exact Blk.new w2' 31 #[.int .i64 a.P, .int .i64 a.party, .int .i64 a.input, .int .i64 a.mask, .int .i64 a.delta, .slice y.sa y.sn y.sc, .slice y.ka y.kn y.kc, .int .i64 a.step, .slice y.ha y.hn y.hc, .int .i64 a.status, .int .i64 a.out]
  have S_w3' : w2'.heap.size + 1 ≤ (w2'.alloc (.cells #[.int .i64 a.P, .int .i64 a.party, .int .i64 a.input, .int .i64 a.mask, .int .i64 a.delta, .slice y.sa y.sn y.sc, .slice y.ka y.kn y.kc, .int .i64 a.step, .slice y.ha y.hn y.hc, .int .i64 a.status, .int .i64 a.out] 31)).heap.size := by first | (simp; done) | (simp; omega) | (simp [World.setCell]; done) | (simp [World.setCell]; omega)
  generalize (w2'.alloc (.cells #[.int .i64 a.P, .int .i64 a.party, .int .i64 a.input, .int .i64 a.mask, .int .i64 a.delta, .slice y.sa y.sn y.sc, .slice y.ka y.kn y.kc, .int .i64 a.step, .slice y.ha y.hn y.hc, .int .i64 a.status, .int .i64 a.out] 31)) = w3' at *
  have V_w3' : Below w.heap.size w w3' := V_w3'_1
  clear V_w2'
  clear V_w3'_1
  have e_a_0 : w3'.cell? ⟨w.heap.size, 0, none⟩ = some (.int .i64 a.P) := B_a.cell 0
  have e_a_1 : w3'.cell? ⟨w.heap.size, 1, none⟩ = some (.int .i64 a.party) := B_a.cell 1
  have e_a_2 : w3'.cell? ⟨w.heap.size, 2, none⟩ = some (.int .i64 a.input) := B_a.cell 2
  have e_a_3 : w3'.cell? ⟨w.heap.size, 3, none⟩ = some (.int .i64 a.mask) := B_a.cell 3
  have e_a_4 : w3'.cell? ⟨w.heap.size, 4, none⟩ = some (.int .i64 a.delta) := B_a.cell 4
  have e_a_5 : w3'.cell? ⟨w.heap.size, 5, none⟩ = some (.slice x.sa x.sn x.sc) := B_a.cell 5
  have e_a_6 : w3'.cell? ⟨w.heap.size, 6, none⟩ = some (.slice x.ka x.kn x.kc) := B_a.cell 6
  have e_a_7 : w3'.cell? ⟨w.heap.size, 7, none⟩ = some (.int .i64 a.step) := B_a.cell 7
  have e_a_8 : w3'.cell? ⟨w.heap.size, 8, none⟩ = some (.slice x.ha x.hn x.hc) := B_a.cell 8
  have e_a_9 : w3'.cell? ⟨w.heap.size, 9, none⟩ = some (.int .i64 a.status) := B_a.cell 9
  have e_a_10 : w3'.cell? ⟨w.heap.size, 10, none⟩ = some (.int .i64 a.out) := B_a.cell 10
  have e_m_0 : w3'.cell? ⟨w.heap.size + 1, 0, none⟩ = some (.int .i64 fr) := B_m.cell 0
  have e_m_1 : w3'.cell? ⟨w.heap.size + 1, 1, none⟩ = some (.int .i64 st) := B_m.cell 1
  have e_m_2 : w3'.cell? ⟨w.heap.size + 1, 2, none⟩ = some (.slice b body.length c) := B_m.cell 2
  go_wp2_with fail
  clear e_a_0 e_a_1 e_a_2 e_a_3 e_a_4 e_a_5 e_a_6 e_a_7 e_a_8 e_a_9 e_a_10 e_m_0 e_m_1 e_m_2
  refine (CA.out _ (LH.out.below V_w3') (LM.out.below V_w3') (LX.out.below V_w3')).mono ?_
  rintro e w4' ⟨rfl, u_w4'⟩
  replace B_a := B_a.below u_w4'
  replace B_m := B_m.below u_w4'
  replace B_r := B_r.below u_w4'
  replace B_b := B_b.below u_w4'
  replace o := o.below u_w4'
  have S_w4' := u_w4'.size
  have V_w4' : Below w.heap.size w w4' := V_w3'.trans (u_w4'.mono V_w3'.size)
  clear V_w3'
  clear u_w4'
  obtain ⟨o5, o6, rs, o8, hd, D56, D58, D68, rfl⟩ := o
  have Q_o5 := Lib.hid (fun q (hq : q ∈ foot y.sa y.sc) => Q_o.out q (List.mem_append_left _ hq))
  have Q_o6 := Lib.hid (fun q (hq : q ∈ foot y.ka y.kc) => Q_o.out q (List.mem_append_right _ (List.mem_append_left _ hq)))
  have Q_o8 := Lib.hid (fun q (hq : q ∈ feetSS y.ha y.hc rs) => Q_o.out q (List.mem_append_right _ (List.mem_append_right _ hq)))
  have hrl := o8.reads.len
  have hrn : y.hn ≤ 2 := by have : rs.length = a.heard.length := by rw [← hd, datas_len]
                            omega
  replace hd := Lib.hid hd
  have NN : ∀ q, q ∈ foot y.ha y.hc → w.heap.size + 3 ≤ q ∧ q < w2'.heap.size := fun q hq => (Q_o8.out q (List.mem_append_left _ hq))
  have SL : w.heap.size + 3 ≤ w4'.drew.heap.size := (show w.heap.size + 3 ≤ w4'.heap.size by omega)
  have hM7 := (LM.out.below V_w4').below (Below.refl _ _).drew
  have e_a_7 : w4'.cell? ⟨w.heap.size, 7, none⟩ = some (.int .i64 a.step) := B_a.cell 7
  have e_m_2 : w4'.cell? ⟨w.heap.size + 1, 2, none⟩ = some (.slice b body.length c) := B_m.cell 2
  have e_b_8 : w4'.cell? ⟨w2'.heap.size, 8, none⟩ = some (.slice y.ha y.hn y.hc) := B_b.cell 8
  have f_b_8 : w4'.frozen? ⟨w2'.heap.size, 8, none⟩ = false := B_b.frozen 8
  have e_b_7 : w4'.cell? ⟨w2'.heap.size, 7, none⟩ = some (.int .i64 a.step) := B_b.cell 7
  have f_b_7 : w4'.frozen? ⟨w2'.heap.size, 7, none⟩ = false := B_b.frozen 7
  go_wp2
  refine wp_region_noPanic ?_
  refine wp_region_held_drew (S := (fun W => Blk W (w.heap.size) 31 #[.int .i64 a.P, .int .i64 a.party, .int .i64 a.input, .int .i64 a.mask, .int .i64 a.delta, .slice x.sa x.sn x.sc, .slice x.ka x.kn x.kc, .int .i64 a.step, .slice x.ha x.hn x.hc, .int .i64 a.status, .int .i64 a.out] ∧ Blk W (w.heap.size + 1) 44 #[.int .i64 fr, .int .i64 st, .slice b body.length c])) (by kernel_rfl) ?hS1 (fun hHeld => ?go1)
  case hS1 => exact ⟨B_a.drew, B_m.drew⟩
  refine wpAnyH_take (i := 0) (oi := { dst := some 31, op := _, type := _, pos := _, after := _, guard := _ }) (v := ?v0_2) rfl (by kernel_rfl) (by kernel_rfl) (by kernel_rfl) (fun _ _ _ h => h) (Or.inl ⟨by rfl, ?hy0_2⟩) hHeld ?rest0_2
  case hy0_2 => (intro w _; first | (go_simp; done) | (go_simp; with_reducible rfl) | (with_reducible rfl))
  (try simp only [Act.put, List.setIfInBounds_toArray, List.set_cons_zero, List.set_cons_succ])
  refine wpAnyH_take (i := 2) (oi := { dst := some 33, op := _, type := _, pos := _, after := _, guard := _ }) (v := ?v2_3) rfl (by kernel_rfl) (by kernel_rfl) (by kernel_rfl) (fun _ _ _ h => h) (Or.inl ⟨by rfl, ?hy2_3⟩) hHeld ?rest2_3
  case hy2_3 => (intro w _; first | (go_simp; done) | (go_simp; with_reducible rfl) | (with_reducible rfl))
  (try simp only [Act.put, List.setIfInBounds_toArray, List.set_cons_zero, List.set_cons_succ])
  refine wpAnyH_take (i := 3) (oi := { dst := some 34, op := _, type := _, pos := _, after := _, guard := _ }) (v := ?v3_4) rfl (by kernel_rfl) (by kernel_rfl) (by kernel_rfl) (fun _ _ _ h => h) (Or.inl ⟨by rfl, ?hy3_4⟩) hHeld ?rest3_4
  case hy3_4 => (intro w hSw; obtain ⟨qS0, qS1⟩ := hSw; have cS0_0 := qS0.cell 0; have cS0_1 := qS0.cell 1; have cS0_2 := qS0.cell 2; have cS0_3 := qS0.cell 3; have cS0_4 := qS0.cell 4; have cS0_5 := qS0.cell 5; have cS0_6 := qS0.cell 6; have cS0_7 := qS0.cell 7; have cS0_8 := qS0.cell 8; have cS0_9 := qS0.cell 9; have cS0_10 := qS0.cell 10; have cS1_0 := qS1.cell 0; have cS1_1 := qS1.cell 1; have cS1_2 := qS1.cell 2; first | (go_simp; done) | (go_simp; with_reducible rfl) | (with_reducible rfl))
  (try simp only [Act.put, List.setIfInBounds_toArray, List.set_cons_zero, List.set_cons_succ])
  refine wpAnyH_take (i := 7) (oi := { dst := some 38, op := _, type := _, pos := _, after := _, guard := _ }) (v := ?v7_5) rfl (by kernel_rfl) (by kernel_rfl) (by kernel_rfl) (fun _ _ _ h => h) (Or.inl ⟨by rfl, ?hy7_5⟩) hHeld ?rest7_5
  case hy7_5 => (intro w _; first | (go_simp; done) | (go_simp; with_reducible rfl) | (with_reducible rfl))
  (try simp only [Act.put, List.setIfInBounds_toArray, List.set_cons_zero, List.set_cons_succ])
  refine wpAnyH_take (i := 8) (oi := { dst := some 39, op := _, type := _, pos := _, after := _, guard := _ }) (v := ?v8_6) rfl (by kernel_rfl) (by kernel_rfl) (by kernel_rfl) (fun _ _ _ h => h) (Or.inl ⟨by rfl, ?hy8_6⟩) hHeld ?rest8_6
  case hy8_6 => (intro w hSw; obtain ⟨qS0, qS1⟩ := hSw; have cS0_0 := qS0.cell 0; have cS0_1 := qS0.cell 1; have cS0_2 := qS0.cell 2; have cS0_3 := qS0.cell 3; have cS0_4 := qS0.cell 4; have cS0_5 := qS0.cell 5; have cS0_6 := qS0.cell 6; have cS0_7 := qS0.cell 7; have cS0_8 := qS0.cell 8; have cS0_9 := qS0.cell 9; have cS0_10 := qS0.cell 10; have cS1_0 := qS1.cell 0; have cS1_1 := qS1.cell 1; have cS1_2 := qS1.cell 2; first | (go_simp; done) | (go_simp; with_reducible rfl) | (with_reducible rfl))
  (try simp only [Act.put, List.setIfInBounds_toArray, List.set_cons_zero, List.set_cons_succ])
  refine wpAnyH_take (i := 9) (oi := { dst := some 40, op := _, type := _, pos := _, after := _, guard := _ }) (v := ?v9_7) rfl (by kernel_rfl) (by kernel_rfl) (by kernel_rfl) (fun _ _ _ h => h) (Or.inl ⟨by rfl, ?hy9_7⟩) hHeld ?rest9_7
  case hy9_7 => (intro w _; first | (go_simp; done) | (go_simp; with_reducible rfl) | (with_reducible rfl))
  (try simp only [Act.put, List.setIfInBounds_toArray, List.set_cons_zero, List.set_cons_succ])
  refine wpAnyH_ready (rs := [1, 4]) (by kernel_rfl) (by simp) ?_
  refine AllReadyH.cons (o := { dst := some 32, op := _, type := _, pos := _, after := _, guard := _ }) rfl (fun K hK => ?_) ?_
  go_simp
  refine hK.out _ _ ?_ (fun hHeld => ?_)
  · (first | exact ⟨A8, M8⟩ | exact ⟨A7, M7⟩ | exact ⟨A9A, M9A⟩ | exact ⟨A9, M9⟩ | exact ⟨B_a.drew, B_m.drew⟩)
  clear hK K
  (try simp only [Act.put, List.setIfInBounds_toArray, List.set_cons_zero, List.set_cons_succ])
  refine wpAnyH_ready (rs := [4]) (by kernel_rfl) (by simp) ?_
  refine AllReadyH.cons (o := { dst := some 35, op := _, type := _, pos := _, after := _, guard := _ }) rfl (fun K hK => ?_) ?_
  go_simp
  refine (Clone_any _ _ _ body _ hM7 hn4).mono ?_
  rintro e wz ⟨b9, d9, rfl, o9, u9⟩
  have A9 := Blk.below B_a.drew u9
  have A9A := Blk.alloc A9 (.cells #[.slice b9 body.length d9] 23)
  have M9 := Blk.below B_m.drew u9
  have M9A := Blk.alloc M9 (.cells #[.slice b9 body.length d9] 23)
  have B9 := Blk.below B_b.drew u9
  have B9A := Blk.alloc B9 (.cells #[.slice b9 body.length d9] 23)
  have g9b := B9.cell 8
  have g9B := B9A.cell 8
  focus (try go_wp2_with fail)
  refine hK.out _ _ ?_ (fun hHeld => ?_)
  · (first | exact ⟨A8, M8⟩ | exact ⟨A7, M7⟩ | exact ⟨A9A, M9A⟩ | exact ⟨A9, M9⟩ | exact ⟨B_a.drew, B_m.drew⟩)
  clear hK K
  (try simp only [Act.put, List.setIfInBounds_toArray, List.set_cons_zero, List.set_cons_succ])
  refine wpAnyH_ready (rs := [5]) (by kernel_rfl) (by simp) ?_
  refine AllReadyH.cons (o := { dst := some 36, op := _, type := _, pos := _, after := _, guard := _ }) rfl (fun K hK => ?_) ?_
  go_simp
  refine hK.out _ _ ?_ (fun hHeld => ?_)
  · (first | exact ⟨A8, M8⟩ | exact ⟨A7, M7⟩ | exact ⟨A9A, M9A⟩ | exact ⟨A9, M9⟩ | exact ⟨B_a.drew, B_m.drew⟩)
  clear hK K
  (try simp only [Act.put, List.setIfInBounds_toArray, List.set_cons_zero, List.set_cons_succ])
  refine wpAnyH_ready (rs := [6]) (by kernel_rfl) (by simp) ?_
  refine AllReadyH.cons (o := { dst := some 37, op := _, type := _, pos := _, after := _, guard := _ }) rfl (fun K hK => ?_) ?_
  have hdj : Disj (foot b9 d9) (feetSS y.ha y.hc rs) := Disj.of_rng o9.feet o8.feet (Or.inr (Nat.le_refl _))
  have own2 := o8.below ((Below.refl _ _).drew.trans u9)
  have o10 := o9.lower (b' := w.heap.size + 3) SL
  have LIT := RowC.lit1 wz (rowV (b9, d9, body)) 23
  have own3 := OwnSS.alloc own2 (.cells #[rowV (b9, d9, body)] 23)
  have o11 := Own.alloc o10 (.cells #[rowV (b9, d9, body)] 23)
  have OO : OwnC (wz.alloc (.cells #[rowV (b9, d9, body)] 23)) (w.heap.size + 3) y.ha y.hn y.hc 23 1 (rs.map rowV) := own3.out
  have szz : w.heap.size + 3 ≤ (wz.alloc (.cells #[rowV (b9, d9, body)] 23)).heap.size := by have := u9.size; simp at *; omega
  refine step_appSS (by rfl) _ _ (by rfl) (w.heap.size + 3) y.ha y.hn y.hc (rs.map rowV) (by rfl) OO _ 1 1 [rowV (b9, d9, body)] (by rfl) LIT (by simp [rowV, Value.oneCell']) (by omega) szz ?_
  intro a7 c7 w7 oc u7 g7 m7
  have A7 := Blk.only A9A (Only.of_grown g7) (fun hq => by have := NN _ hq; omega)
  have M7 := Blk.only M9A (Only.of_grown g7) (fun hq => by have := NN _ hq; omega)
  have B7 := Blk.only B9A (Only.of_grown g7) (fun hq => by have := NN _ hq; omega)
  have j8 := B7.cell 8
  have j7 := B7.cell 7
  have f8 := B7.frozen 8
  have f7 := B7.frozen 7
  refine hK.out _ _ ?_ (fun hHeld => ?_)
  · (first | exact ⟨A8, M8⟩ | exact ⟨A7, M7⟩ | exact ⟨A9A, M9A⟩ | exact ⟨A9, M9⟩ | exact ⟨B_a.drew, B_m.drew⟩)
  clear hK K
  (try simp only [Act.put, List.setIfInBounds_toArray, List.set_cons_zero, List.set_cons_succ])
  refine wpAnyH_take (i := 10) (oi := { dst := some 41, op := _, type := _, pos := _, after := _, guard := _ }) (v := ?v10_8) rfl (by kernel_rfl) (by kernel_rfl) (by kernel_rfl) (fun _ _ _ h => h) (Or.inl ⟨by rfl, ?hy10_8⟩) hHeld ?rest10_8
  case hy10_8 => (intro w _; first | (go_simp; done) | (go_simp; with_reducible rfl) | (with_reducible rfl))
  (try simp only [Act.put, List.setIfInBounds_toArray, List.set_cons_zero, List.set_cons_succ])
  refine wpAnyH_ready (rs := [11]) (by kernel_rfl) (by simp) ?_
  refine AllReadyH.cons (o := { dst := none, op := _, type := _, pos := _, after := _, guard := _ }) rfl (fun K hK => ?_) ?_
  have G8 : Only [w2'.heap.size] w7 (w7.setCell ⟨w2'.heap.size, 8, none⟩ (.slice a7 (y.hn + 1) c7)) := (Only.refl _ _).setCell ⟨w2'.heap.size, 8, none⟩ _ (by simp)
  have A8 := Blk.only A7 G8 (by simp; omega)
  have M8 := Blk.only M7 G8 (by simp; omega)
  have B8 := B7.set_ 8 (.slice a7 (y.hn + 1) c7)
  have k7 := B8.frozen 7
  go_simp
  refine hK.out _ _ ?_ (fun hHeld => ?_)
  · (first | exact ⟨A8, M8⟩ | exact ⟨A7, M7⟩ | exact ⟨A9A, M9A⟩ | exact ⟨A9, M9⟩ | exact ⟨B_a.drew, B_m.drew⟩)
  clear hK K
  (try simp only [Act.put, List.setIfInBounds_toArray, List.set_cons_zero, List.set_cons_succ])
  refine wpAnyH_take (i := 12) (oi := { dst := some 42, op := _, type := _, pos := _, after := _, guard := _ }) (v := ?v12_9) rfl (by kernel_rfl) (by kernel_rfl) (by kernel_rfl) (fun _ _ _ h => h) (Or.inl ⟨by rfl, ?hy12_9⟩) hHeld ?rest12_9
  case hy12_9 => (intro w _; first | (go_simp; done) | (go_simp; with_reducible rfl) | (with_reducible rfl))
  (try simp only [Act.put, List.setIfInBounds_toArray, List.set_cons_zero, List.set_cons_succ])
  refine wpAnyH_ready (rs := [13]) (by kernel_rfl) (by simp) ?_
  refine AllReadyH.cons (o := { dst := none, op := _, type := _, pos := _, after := _, guard := _ }) rfl (fun K hK => ?_) ?_
  go_simp
  refine hK.out _ _ ?_ (fun hHeld => ?_)
  · (exact ⟨Blk.only A8 ((Only.refl [w2'.heap.size] _).setCell ⟨w2'.heap.size, 7, none⟩ _ (by simp)) (by simp; omega), Blk.only M8 ((Only.refl [w2'.heap.size] _).setCell ⟨w2'.heap.size, 7, none⟩ _ (by simp)) (by simp; omega)⟩)
  clear hK K
  (try simp only [Act.put, List.setIfInBounds_toArray, List.set_cons_zero, List.set_cons_succ])
  refine wpAnyH_done (by kernel_rfl) ?_ _
  refine NoPanic.normal ?_
  rotate_left 1
  exact AllReadyH.nil
  exact AllReadyH.nil
  exact AllReadyH.nil
  exact AllReadyH.nil
  exact AllReadyH.nil
  refine AllReadyH.cons (o := { dst := some 35, op := _, type := _, pos := _, after := _, guard := _ }) rfl (fun K hK => ?_) ?_
  go_simp
  refine (Clone_any _ _ _ body _ hM7 hn4).mono ?_
  rintro e wz ⟨b9, d9, rfl, o9, u9⟩
  have A9 := Blk.below B_a.drew u9
  have A9A := Blk.alloc A9 (.cells #[.slice b9 body.length d9] 23)
  have M9 := Blk.below B_m.drew u9
  have M9A := Blk.alloc M9 (.cells #[.slice b9 body.length d9] 23)
  have B9 := Blk.below B_b.drew u9
  have B9A := Blk.alloc B9 (.cells #[.slice b9 body.length d9] 23)
  have g9b := B9.cell 8
  have g9B := B9A.cell 8
  focus (try go_wp2_with fail)
  refine hK.out _ _ ?_ (fun hHeld => ?_)
  · (first | exact ⟨A8, M8⟩ | exact ⟨A7, M7⟩ | exact ⟨A9A, M9A⟩ | exact ⟨A9, M9⟩ | exact ⟨B_a.drew, B_m.drew⟩)
  clear hK K
  (try simp only [Act.put, List.setIfInBounds_toArray, List.set_cons_zero, List.set_cons_succ])
  refine wpAnyH_ready (rs := [1, 5]) (by kernel_rfl) (by simp) ?_
  refine AllReadyH.cons (o := { dst := some 32, op := _, type := _, pos := _, after := _, guard := _ }) rfl (fun K hK => ?_) ?_
  go_simp
  refine hK.out _ _ ?_ (fun hHeld => ?_)
  · (first | exact ⟨A8, M8⟩ | exact ⟨A7, M7⟩ | exact ⟨A9A, M9A⟩ | exact ⟨A9, M9⟩ | exact ⟨B_a.drew, B_m.drew⟩)
  clear hK K
  (try simp only [Act.put, List.setIfInBounds_toArray, List.set_cons_zero, List.set_cons_succ])
  refine wpAnyH_ready (rs := [5]) (by kernel_rfl) (by simp) ?_
  refine AllReadyH.cons (o := { dst := some 36, op := _, type := _, pos := _, after := _, guard := _ }) rfl (fun K hK => ?_) ?_
  go_simp
  refine hK.out _ _ ?_ (fun hHeld => ?_)
  · (first | exact ⟨A8, M8⟩ | exact ⟨A7, M7⟩ | exact ⟨A9A, M9A⟩ | exact ⟨A9, M9⟩ | exact ⟨B_a.drew, B_m.drew⟩)
  clear hK K
  (try simp only [Act.put, List.setIfInBounds_toArray, List.set_cons_zero, List.set_cons_succ])
  refine wpAnyH_ready (rs := [6]) (by kernel_rfl) (by simp) ?_
  refine AllReadyH.cons (o := { dst := some 37, op := _, type := _, pos := _, after := _, guard := _ }) rfl (fun K hK => ?_) ?_
  have hdj : Disj (foot b9 d9) (feetSS y.ha y.hc rs) := Disj.of_rng o9.feet o8.feet (Or.inr (Nat.le_refl _))
  have own2 := o8.below ((Below.refl _ _).drew.trans u9)
  have o10 := o9.lower (b' := w.heap.size + 3) SL
  have LIT := RowC.lit1 wz (rowV (b9, d9, body)) 23
  have own3 := OwnSS.alloc own2 (.cells #[rowV (b9, d9, body)] 23)
  have o11 := Own.alloc o10 (.cells #[rowV (b9, d9, body)] 23)
  have OO : OwnC (wz.alloc (.cells #[rowV (b9, d9, body)] 23)) (w.heap.size + 3) y.ha y.hn y.hc 23 1 (rs.map rowV) := own3.out
  have szz : w.heap.size + 3 ≤ (wz.alloc (.cells #[rowV (b9, d9, body)] 23)).heap.size := by have := u9.size; simp at *; omega
  refine step_appSS (by rfl) _ _ (by rfl) (w.heap.size + 3) y.ha y.hn y.hc (rs.map rowV) (by rfl) OO _ 1 1 [rowV (b9, d9, body)] (by rfl) LIT (by simp [rowV, Value.oneCell']) (by omega) szz ?_
  intro a7 c7 w7 oc u7 g7 m7
  have A7 := Blk.only A9A (Only.of_grown g7) (fun hq => by have := NN _ hq; omega)
  have M7 := Blk.only M9A (Only.of_grown g7) (fun hq => by have := NN _ hq; omega)
  have B7 := Blk.only B9A (Only.of_grown g7) (fun hq => by have := NN _ hq; omega)
  have j8 := B7.cell 8
  have j7 := B7.cell 7
  have f8 := B7.frozen 8
  have f7 := B7.frozen 7
  refine hK.out _ _ ?_ (fun hHeld => ?_)
  · (first | exact ⟨A8, M8⟩ | exact ⟨A7, M7⟩ | exact ⟨A9A, M9A⟩ | exact ⟨A9, M9⟩ | exact ⟨B_a.drew, B_m.drew⟩)
  clear hK K
  (try simp only [Act.put, List.setIfInBounds_toArray, List.set_cons_zero, List.set_cons_succ])
  refine wpAnyH_take (i := 10) (oi := { dst := some 41, op := _, type := _, pos := _, after := _, guard := _ }) (v := ?v10_10) rfl (by kernel_rfl) (by kernel_rfl) (by kernel_rfl) (fun _ _ _ h => h) (Or.inl ⟨by rfl, ?hy10_10⟩) hHeld ?rest10_10
  case hy10_10 => (intro w _; first | (go_simp; done) | (go_simp; with_reducible rfl) | (with_reducible rfl))
  (try simp only [Act.put, List.setIfInBounds_toArray, List.set_cons_zero, List.set_cons_succ])
  refine wpAnyH_ready (rs := [11]) (by kernel_rfl) (by simp) ?_
  refine AllReadyH.cons (o := { dst := none, op := _, type := _, pos := _, after := _, guard := _ }) rfl (fun K hK => ?_) ?_
  have G8 : Only [w2'.heap.size] w7 (w7.setCell ⟨w2'.heap.size, 8, none⟩ (.slice a7 (y.hn + 1) c7)) := (Only.refl _ _).setCell ⟨w2'.heap.size, 8, none⟩ _ (by simp)
  have A8 := Blk.only A7 G8 (by simp; omega)
  have M8 := Blk.only M7 G8 (by simp; omega)
  have B8 := B7.set_ 8 (.slice a7 (y.hn + 1) c7)
  have k7 := B8.frozen 7
  go_simp
  refine hK.out _ _ ?_ (fun hHeld => ?_)
  · (first | exact ⟨A8, M8⟩ | exact ⟨A7, M7⟩ | exact ⟨A9A, M9A⟩ | exact ⟨A9, M9⟩ | exact ⟨B_a.drew, B_m.drew⟩)
  clear hK K
  (try simp only [Act.put, List.setIfInBounds_toArray, List.set_cons_zero, List.set_cons_succ])
  refine wpAnyH_take (i := 12) (oi := { dst := some 42, op := _, type := _, pos := _, after := _, guard := _ }) (v := ?v12_11) rfl (by kernel_rfl) (by kernel_rfl) (by kernel_rfl) (fun _ _ _ h => h) (Or.inl ⟨by rfl, ?hy12_11⟩) hHeld ?rest12_11
  case hy12_11 => (intro w _; first | (go_simp; done) | (go_simp; with_reducible rfl) | (with_reducible rfl))
  (try simp only [Act.put, List.setIfInBounds_toArray, List.set_cons_zero, List.set_cons_succ])
  refine wpAnyH_ready (rs := [13]) (by kernel_rfl) (by simp) ?_
  refine AllReadyH.cons (o := { dst := none, op := _, type := _, pos := _, after := _, guard := _ }) rfl (fun K hK => ?_) ?_
  go_simp
  refine hK.out _ _ ?_ (fun hHeld => ?_)
  · (exact ⟨Blk.only A8 ((Only.refl [w2'.heap.size] _).setCell ⟨w2'.heap.size, 7, none⟩ _ (by simp)) (by simp; omega), Blk.only M8 ((Only.refl [w2'.heap.size] _).setCell ⟨w2'.heap.size, 7, none⟩ _ (by simp)) (by simp; omega)⟩)
  clear hK K
  (try simp only [Act.put, List.setIfInBounds_toArray, List.set_cons_zero, List.set_cons_succ])
  refine wpAnyH_done (by kernel_rfl) ?_ _
  refine NoPanic.normal ?_
  rotate_left 1
  exact AllReadyH.nil
  exact AllReadyH.nil
  exact AllReadyH.nil
  exact AllReadyH.nil
  refine AllReadyH.cons (o := { dst := some 36, op := _, type := _, pos := _, after := _, guard := _ }) rfl (fun K hK => ?_) ?_
  go_simp
  refine hK.out _ _ ?_ (fun hHeld => ?_)
  · (first | exact ⟨A8, M8⟩ | exact ⟨A7, M7⟩ | exact ⟨A9A, M9A⟩ | exact ⟨A9, M9⟩ | exact ⟨B_a.drew, B_m.drew⟩)
  clear hK K
  (try simp only [Act.put, List.setIfInBounds_toArray, List.set_cons_zero, List.set_cons_succ])
  refine wpAnyH_ready (rs := [1]) (by kernel_rfl) (by simp) ?_
  refine AllReadyH.cons (o := { dst := some 32, op := _, type := _, pos := _, after := _, guard := _ }) rfl (fun K hK => ?_) ?_
  go_simp
  refine hK.out _ _ ?_ (fun hHeld => ?_)
  · (first | exact ⟨A8, M8⟩ | exact ⟨A7, M7⟩ | exact ⟨A9A, M9A⟩ | exact ⟨A9, M9⟩ | exact ⟨B_a.drew, B_m.drew⟩)
  clear hK K
  (try simp only [Act.put, List.setIfInBounds_toArray, List.set_cons_zero, List.set_cons_succ])
  refine wpAnyH_ready (rs := [6]) (by kernel_rfl) (by simp) ?_
  refine AllReadyH.cons (o := { dst := some 37, op := _, type := _, pos := _, after := _, guard := _ }) rfl (fun K hK => ?_) ?_
  have hdj : Disj (foot b9 d9) (feetSS y.ha y.hc rs) := Disj.of_rng o9.feet o8.feet (Or.inr (Nat.le_refl _))
  have own2 := o8.below ((Below.refl _ _).drew.trans u9)
  have o10 := o9.lower (b' := w.heap.size + 3) SL
  have LIT := RowC.lit1 wz (rowV (b9, d9, body)) 23
  have own3 := OwnSS.alloc own2 (.cells #[rowV (b9, d9, body)] 23)
  have o11 := Own.alloc o10 (.cells #[rowV (b9, d9, body)] 23)
  have OO : OwnC (wz.alloc (.cells #[rowV (b9, d9, body)] 23)) (w.heap.size + 3) y.ha y.hn y.hc 23 1 (rs.map rowV) := own3.out
  have szz : w.heap.size + 3 ≤ (wz.alloc (.cells #[rowV (b9, d9, body)] 23)).heap.size := by have := u9.size; simp at *; omega
  refine step_appSS (by rfl) _ _ (by rfl) (w.heap.size + 3) y.ha y.hn y.hc (rs.map rowV) (by rfl) OO _ 1 1 [rowV (b9, d9, body)] (by rfl) LIT (by simp [rowV, Value.oneCell']) (by omega) szz ?_
  intro a7 c7 w7 oc u7 g7 m7
  have A7 := Blk.only A9A (Only.of_grown g7) (fun hq => by have := NN _ hq; omega)
  have M7 := Blk.only M9A (Only.of_grown g7) (fun hq => by have := NN _ hq; omega)
  have B7 := Blk.only B9A (Only.of_grown g7) (fun hq => by have := NN _ hq; omega)
  have j8 := B7.cell 8
  have j7 := B7.cell 7
  have f8 := B7.frozen 8
  have f7 := B7.frozen 7
  refine hK.out _ _ ?_ (fun hHeld => ?_)
  · (first | exact ⟨A8, M8⟩ | exact ⟨A7, M7⟩ | exact ⟨A9A, M9A⟩ | exact ⟨A9, M9⟩ | exact ⟨B_a.drew, B_m.drew⟩)
  clear hK K
  (try simp only [Act.put, List.setIfInBounds_toArray, List.set_cons_zero, List.set_cons_succ])
  refine wpAnyH_take (i := 10) (oi := { dst := some 41, op := _, type := _, pos := _, after := _, guard := _ }) (v := ?v10_12) rfl (by kernel_rfl) (by kernel_rfl) (by kernel_rfl) (fun _ _ _ h => h) (Or.inl ⟨by rfl, ?hy10_12⟩) hHeld ?rest10_12
  case hy10_12 => (intro w _; first | (go_simp; done) | (go_simp; with_reducible rfl) | (with_reducible rfl))
  (try simp only [Act.put, List.setIfInBounds_toArray, List.set_cons_zero, List.set_cons_succ])
  refine wpAnyH_ready (rs := [11]) (by kernel_rfl) (by simp) ?_
  refine AllReadyH.cons (o := { dst := none, op := _, type := _, pos := _, after := _, guard := _ }) rfl (fun K hK => ?_) ?_
  have G8 : Only [w2'.heap.size] w7 (w7.setCell ⟨w2'.heap.size, 8, none⟩ (.slice a7 (y.hn + 1) c7)) := (Only.refl _ _).setCell ⟨w2'.heap.size, 8, none⟩ _ (by simp)
  have A8 := Blk.only A7 G8 (by simp; omega)
  have M8 := Blk.only M7 G8 (by simp; omega)
  have B8 := B7.set_ 8 (.slice a7 (y.hn + 1) c7)
  have k7 := B8.frozen 7
  go_simp
  refine hK.out _ _ ?_ (fun hHeld => ?_)
  · (first | exact ⟨A8, M8⟩ | exact ⟨A7, M7⟩ | exact ⟨A9A, M9A⟩ | exact ⟨A9, M9⟩ | exact ⟨B_a.drew, B_m.drew⟩)
  clear hK K
  (try simp only [Act.put, List.setIfInBounds_toArray, List.set_cons_zero, List.set_cons_succ])
  refine wpAnyH_take (i := 12) (oi := { dst := some 42, op := _, type := _, pos := _, after := _, guard := _ }) (v := ?v12_13) rfl (by kernel_rfl) (by kernel_rfl) (by kernel_rfl) (fun _ _ _ h => h) (Or.inl ⟨by rfl, ?hy12_13⟩) hHeld ?rest12_13
  case hy12_13 => (intro w _; first | (go_simp; done) | (go_simp; with_reducible rfl) | (with_reducible rfl))
  (try simp only [Act.put, List.setIfInBounds_toArray, List.set_cons_zero, List.set_cons_succ])
  refine wpAnyH_ready (rs := [13]) (by kernel_rfl) (by simp) ?_
  refine AllReadyH.cons (o := { dst := none, op := _, type := _, pos := _, after := _, guard := _ }) rfl (fun K hK => ?_) ?_
  go_simp
  refine hK.out _ _ ?_ (fun hHeld => ?_)
  · (exact ⟨Blk.only A8 ((Only.refl [w2'.heap.size] _).setCell ⟨w2'.heap.size, 7, none⟩ _ (by simp)) (by simp; omega), Blk.only M8 ((Only.refl [w2'.heap.size] _).setCell ⟨w2'.heap.size, 7, none⟩ _ (by simp)) (by simp; omega)⟩)
  clear hK K
  (try simp only [Act.put, List.setIfInBounds_toArray, List.set_cons_zero, List.set_cons_succ])
  refine wpAnyH_done (by kernel_rfl) ?_ _
  refine NoPanic.normal ?_
  rotate_left 1
  exact AllReadyH.nil
  exact AllReadyH.nil
  exact AllReadyH.nil
  exact AllReadyH.nil
  exact AllReadyH.nil
  exact AllReadyH.nil
  all_goals
    have own4 := own3.push (r := (b9, d9, body)) o11 hdj oc g7 m7
    have hd5 : datas' (rs ++ [(b9, d9, body)]) = a.heard ++ [body] := by rw [← hd.out]; simp [datas']
    replace hd5 := Lib.hid hd5
    have uA : Below w4'.heap.size w4' wz := (Below.refl _ _).drew.trans u9
    have Q9 := Lib.hid o9.feet
    have SW := V_w4'.size
    have E5 : Disj (foot y.sa y.sc) (feetSS a7 c7 (rs ++ [(b9, d9, body)])) := push_feet D58 (fun q hq hq' => by have := Q_o5.out q hq; have := (Q9.out q hq').1; simp at this; omega) m7 (fun q hq => by have := Q_o5.out q hq; have := uA.size; simp; omega)
    have E6 : Disj (foot y.ka y.kc) (feetSS a7 c7 (rs ++ [(b9, d9, body)])) := push_feet D68 (fun q hq hq' => by have := Q_o6.out q hq; have := (Q9.out q hq').1; simp at this; omega) m7 (fun q hq => by have := Q_o6.out q hq; have := uA.size; simp; omega)
    have E7 : Disj [w2'.heap.size] (feetSS a7 c7 (rs ++ [(b9, d9, body)])) := push_feet (fun q hq hq' => by have := Q_o8.out q hq'; simp at hq; omega) (fun q hq hq' => by have := (Q9.out q hq').1; simp at this hq; omega) m7 (fun q hq => by have := uA.size; simp at hq ⊢; omega)
    have Q_own4 := Lib.hid (fun q (hq : q ∈ feetSS a7 c7 (rs ++ [(b9, d9, body)])) => (show (w.heap.size + 3 ≤ q ∧ q < w7.heap.size) ∧ q ≠ w2'.heap.size from ⟨own4.feet q hq, fun e => E7 q (by simp [e]) hq⟩))
    clear own2 o9 o10 o11 own3 oc u9 m7 hdj LIT OO szz A9 M9 B9 A9A M9A B9A g9b g9B A7 M7 B7 j8 j7 f8 f7 G8 A8 M8 B8 k7 hM7 Q9 o8
    clear e_a_7 e_m_2 e_b_8 f_b_8 e_b_7 f_b_7
    replace B_a := B_a.below uA
    replace B_m := B_m.below uA
    replace B_r := B_r.below uA
    replace B_b := B_b.below uA
    replace o5 := o5.below uA
    replace o6 := o6.below uA
    have S_wz := uA.size
    have V_wz : Below w.heap.size w wz := V_w4'.trans (uA.mono V_w4'.size)
    clear V_w4'
    clear uA
    have V_w5'_1 : Below w.heap.size w (wz.alloc (.cells #[.slice b9 body.length d9] 23)) := (V_wz).alloc (by have := (V_wz).size; first | exact this | (simp at *; omega)) _
    replace B_a := B_a.alloc (.cells #[.slice b9 body.length d9] 23)
    replace B_m := B_m.alloc (.cells #[.slice b9 body.length d9] 23)
    replace B_r := B_r.alloc (.cells #[.slice b9 body.length d9] 23)
    replace B_b := B_b.alloc (.cells #[.slice b9 body.length d9] 23)
    replace o5 := o5.alloc (.cells #[.slice b9 body.length d9] 23)
    replace o6 := o6.alloc (.cells #[.slice b9 body.length d9] 23)
    have B_z : Blk (wz.alloc (.cells #[.slice b9 body.length d9] 23)) (wz.heap.size) 23 #[.slice b9 body.length d9] := by exact Blk.new wz 23 #[.slice b9 body.length d9]
    have S_w5' : wz.heap.size + 1 ≤ (wz.alloc (.cells #[.slice b9 body.length d9] 23)).heap.size := by first | (simp; done) | (simp; omega) | (simp [World.setCell]; done) | (simp [World.setCell]; omega)
    generalize (wz.alloc (.cells #[.slice b9 body.length d9] 23)) = w5' at *
    have V_w5' : Below w.heap.size w w5' := V_w5'_1
    clear V_wz
    clear V_w5'_1
    clear B_z
    have oG := Only.of_grown g7
    have V_w7 : Below w.heap.size w w7 := V_w5'.trans (u7.mono (show w.heap.size ≤ w.heap.size + 3 by omega))
    replace B_a := Blk.only B_a oG (fun hq => by have := NN _ hq; omega)
    replace B_m := Blk.only B_m oG (fun hq => by have := NN _ hq; omega)
    replace B_r := Blk.only B_r oG (fun hq => by have := NN _ hq; omega)
    replace B_b := Blk.only B_b oG (fun hq => by have := NN _ hq; omega)
    replace o5 := OwnF.only o5 oG (fun q hq hq' => D58 q hq (List.mem_append_left _ hq'))
    replace o6 := o6.only oG (fun q hq hq' => D68 q hq (List.mem_append_left _ hq'))
    have SLw := oG.size
    clear oG u7 g7 NN
    have g_1 : Only [w2'.heap.size] w7 (w7.setCell ⟨w2'.heap.size, 8, none⟩ (.slice a7 (y.hn + 1) c7)) := (Only.refl _ _).setCell _ _ (by simp)
    replace B_b := B_b.set_ 8 (.slice a7 (y.hn + 1) c7)
    generalize w7.setCell ⟨w2'.heap.size, 8, none⟩ (.slice a7 (y.hn + 1) c7) = w6_1' at *
    have G := g_1
    clear g_1
    have g_2 : Only [w2'.heap.size] w6_1' (w6_1'.setCell ⟨w2'.heap.size, 7, none⟩ (.int .i64 (a.step + 1))) := (Only.refl _ _).setCell _ _ (by simp)
    replace B_b := B_b.set_ 7 (.int .i64 (a.step + 1))
    generalize w6_1'.setCell ⟨w2'.heap.size, 7, none⟩ (.int .i64 (a.step + 1)) = w6' at *
    replace G := G.trans g_2
    clear g_2
    simp only [List.setIfInBounds_toArray, List.set_cons_zero, List.set_cons_succ] at B_b
    have V_w6' : Below w.heap.size w w6' := (V_w7).trans (G.below (V_w7).size (fun q hq => by have := (V_w7).size; simp at hq; omega))
    replace B_a := B_a.only G (by first | (simp; done) | (simp; omega))
    replace B_m := B_m.only G (by first | (simp; done) | (simp; omega))
    replace B_r := B_r.only G (by first | (simp; done) | (simp; omega))
    replace o5 := o5.only G (fun q hq hq' => by have := Q_o5.out q hq; simp at hq'; omega)
    replace o6 := o6.only G (fun q hq hq' => by have := Q_o6.out q hq; simp at hq'; omega)
    replace own4 := own4.only G (fun q hq hq' => by have := Q_own4.out q hq; simp at hq'; omega)
    have sG0 := G.size
    clear G
    clear V_w7
    have S_w6' : w7.heap.size + 0 ≤ w6'.heap.size := by omega
    clear sG0
    have e_b_0 : w6'.cell? ⟨w2'.heap.size, 0, none⟩ = some (.int .i64 a.P) := B_b.cell 0
    have e_b_1 : w6'.cell? ⟨w2'.heap.size, 1, none⟩ = some (.int .i64 a.party) := B_b.cell 1
    have e_b_2 : w6'.cell? ⟨w2'.heap.size, 2, none⟩ = some (.int .i64 a.input) := B_b.cell 2
    have e_b_3 : w6'.cell? ⟨w2'.heap.size, 3, none⟩ = some (.int .i64 a.mask) := B_b.cell 3
    have e_b_4 : w6'.cell? ⟨w2'.heap.size, 4, none⟩ = some (.int .i64 a.delta) := B_b.cell 4
    have e_b_5 : w6'.cell? ⟨w2'.heap.size, 5, none⟩ = some (.slice y.sa y.sn y.sc) := B_b.cell 5
    have e_b_6 : w6'.cell? ⟨w2'.heap.size, 6, none⟩ = some (.slice y.ka y.kn y.kc) := B_b.cell 6
    have e_b_7 : w6'.cell? ⟨w2'.heap.size, 7, none⟩ = some (.int .i64 (a.step + 1)) := B_b.cell 7
    have e_b_8 : w6'.cell? ⟨w2'.heap.size, 8, none⟩ = some (.slice a7 (y.hn + 1) c7) := B_b.cell 8
    have e_b_9 : w6'.cell? ⟨w2'.heap.size, 9, none⟩ = some (.int .i64 a.status) := B_b.cell 9
    have e_b_10 : w6'.cell? ⟨w2'.heap.size, 10, none⟩ = some (.int .i64 a.out) := B_b.cell 10
    have e_r_0 : w6'.cell? ⟨w.heap.size + 2, 0, none⟩ = some (.int .i64 0) := B_r.cell 0
    have f_r_0 : w6'.frozen? ⟨w.heap.size + 2, 0, none⟩ = false := B_r.frozen 0
    have e_r_1 : w6'.cell? ⟨w.heap.size + 2, 1, none⟩ = some (.int .i64 0) := B_r.cell 1
    have f_r_1 : w6'.frozen? ⟨w.heap.size + 2, 1, none⟩ = false := B_r.frozen 1
    have e_r_2 : w6'.cell? ⟨w.heap.size + 2, 2, none⟩ = some (.int .i64 0) := B_r.cell 2
    have f_r_2 : w6'.frozen? ⟨w.heap.size + 2, 2, none⟩ = false := B_r.frozen 2
    have e_r_3 : w6'.cell? ⟨w.heap.size + 2, 3, none⟩ = some (.int .i64 0) := B_r.cell 3
    have f_r_3 : w6'.frozen? ⟨w.heap.size + 2, 3, none⟩ = false := B_r.frozen 3
    have e_r_4 : w6'.cell? ⟨w.heap.size + 2, 4, none⟩ = some (.int .i64 0) := B_r.cell 4
    have f_r_4 : w6'.frozen? ⟨w.heap.size + 2, 4, none⟩ = false := B_r.frozen 4
    have e_r_5 : w6'.cell? ⟨w.heap.size + 2, 5, none⟩ = some (.slice none 0 0) := B_r.cell 5
    have f_r_5 : w6'.frozen? ⟨w.heap.size + 2, 5, none⟩ = false := B_r.frozen 5
    have e_r_6 : w6'.cell? ⟨w.heap.size + 2, 6, none⟩ = some (.slice none 0 0) := B_r.cell 6
    have f_r_6 : w6'.frozen? ⟨w.heap.size + 2, 6, none⟩ = false := B_r.frozen 6
    have e_r_7 : w6'.cell? ⟨w.heap.size + 2, 7, none⟩ = some (.int .i64 0) := B_r.cell 7
    have f_r_7 : w6'.frozen? ⟨w.heap.size + 2, 7, none⟩ = false := B_r.frozen 7
    have e_r_8 : w6'.cell? ⟨w.heap.size + 2, 8, none⟩ = some (.slice none 0 0) := B_r.cell 8
    have f_r_8 : w6'.frozen? ⟨w.heap.size + 2, 8, none⟩ = false := B_r.frozen 8
    have e_r_9 : w6'.cell? ⟨w.heap.size + 2, 9, none⟩ = some (.int .i64 0) := B_r.cell 9
    have f_r_9 : w6'.frozen? ⟨w.heap.size + 2, 9, none⟩ = false := B_r.frozen 9
    have e_r_10 : w6'.cell? ⟨w.heap.size + 2, 10, none⟩ = some (.int .i64 0) := B_r.cell 10
    have f_r_10 : w6'.frozen? ⟨w.heap.size + 2, 10, none⟩ = false := B_r.frozen 10
    go_wp2
    clear e_b_0 e_b_1 e_b_2 e_b_3 e_b_4 e_b_5 e_b_6 e_b_7 e_b_8 e_b_9 e_b_10 e_r_0 f_r_0 e_r_1 f_r_1 e_r_2 f_r_2 e_r_3 f_r_3 e_r_4 f_r_4 e_r_5 f_r_5 e_r_6 f_r_6 e_r_7 f_r_7 e_r_8 f_r_8 e_r_9 f_r_9 e_r_10 f_r_10
    have g_1 : Only [w.heap.size + 2] w6' (w6'.setCell ⟨w.heap.size + 2, 0, none⟩ (.int .i64 a.P)) := (Only.refl _ _).setCell _ _ (by simp)
    replace B_r := B_r.set_ 0 (.int .i64 a.P)
    generalize w6'.setCell ⟨w.heap.size + 2, 0, none⟩ (.int .i64 a.P) = w7_1' at *
    have G := g_1
    clear g_1
    have g_2 : Only [w.heap.size + 2] w7_1' (w7_1'.setCell ⟨w.heap.size + 2, 1, none⟩ (.int .i64 a.party)) := (Only.refl _ _).setCell _ _ (by simp)
    replace B_r := B_r.set_ 1 (.int .i64 a.party)
    generalize w7_1'.setCell ⟨w.heap.size + 2, 1, none⟩ (.int .i64 a.party) = w7_2' at *
    replace G := G.trans g_2
    clear g_2
    have g_3 : Only [w.heap.size + 2] w7_2' (w7_2'.setCell ⟨w.heap.size + 2, 2, none⟩ (.int .i64 a.input)) := (Only.refl _ _).setCell _ _ (by simp)
    replace B_r := B_r.set_ 2 (.int .i64 a.input)
    generalize w7_2'.setCell ⟨w.heap.size + 2, 2, none⟩ (.int .i64 a.input) = w7_3' at *
    replace G := G.trans g_3
    clear g_3
    have g_4 : Only [w.heap.size + 2] w7_3' (w7_3'.setCell ⟨w.heap.size + 2, 3, none⟩ (.int .i64 a.mask)) := (Only.refl _ _).setCell _ _ (by simp)
    replace B_r := B_r.set_ 3 (.int .i64 a.mask)
    generalize w7_3'.setCell ⟨w.heap.size + 2, 3, none⟩ (.int .i64 a.mask) = w7_4' at *
    replace G := G.trans g_4
    clear g_4
    have g_5 : Only [w.heap.size + 2] w7_4' (w7_4'.setCell ⟨w.heap.size + 2, 4, none⟩ (.int .i64 a.delta)) := (Only.refl _ _).setCell _ _ (by simp)
    replace B_r := B_r.set_ 4 (.int .i64 a.delta)
    generalize w7_4'.setCell ⟨w.heap.size + 2, 4, none⟩ (.int .i64 a.delta) = w7_5' at *
    replace G := G.trans g_5
    clear g_5
    have g_6 : Only [w.heap.size + 2] w7_5' (w7_5'.setCell ⟨w.heap.size + 2, 5, none⟩ (.slice y.sa y.sn y.sc)) := (Only.refl _ _).setCell _ _ (by simp)
    replace B_r := B_r.set_ 5 (.slice y.sa y.sn y.sc)
    generalize w7_5'.setCell ⟨w.heap.size + 2, 5, none⟩ (.slice y.sa y.sn y.sc) = w7_6' at *
    replace G := G.trans g_6
    clear g_6
    have g_7 : Only [w.heap.size + 2] w7_6' (w7_6'.setCell ⟨w.heap.size + 2, 6, none⟩ (.slice y.ka y.kn y.kc)) := (Only.refl _ _).setCell _ _ (by simp)
    replace B_r := B_r.set_ 6 (.slice y.ka y.kn y.kc)
    generalize w7_6'.setCell ⟨w.heap.size + 2, 6, none⟩ (.slice y.ka y.kn y.kc) = w7_7' at *
    replace G := G.trans g_7
    clear g_7
    have g_8 : Only [w.heap.size + 2] w7_7' (w7_7'.setCell ⟨w.heap.size + 2, 7, none⟩ (.int .i64 (a.step + 1))) := (Only.refl _ _).setCell _ _ (by simp)
    replace B_r := B_r.set_ 7 (.int .i64 (a.step + 1))
    generalize w7_7'.setCell ⟨w.heap.size + 2, 7, none⟩ (.int .i64 (a.step + 1)) = w7_8' at *
    replace G := G.trans g_8
    clear g_8
    have g_9 : Only [w.heap.size + 2] w7_8' (w7_8'.setCell ⟨w.heap.size + 2, 8, none⟩ (.slice a7 (y.hn + 1) c7)) := (Only.refl _ _).setCell _ _ (by simp)
    replace B_r := B_r.set_ 8 (.slice a7 (y.hn + 1) c7)
    generalize w7_8'.setCell ⟨w.heap.size + 2, 8, none⟩ (.slice a7 (y.hn + 1) c7) = w7_9' at *
    replace G := G.trans g_9
    clear g_9
    have g_10 : Only [w.heap.size + 2] w7_9' (w7_9'.setCell ⟨w.heap.size + 2, 9, none⟩ (.int .i64 a.status)) := (Only.refl _ _).setCell _ _ (by simp)
    replace B_r := B_r.set_ 9 (.int .i64 a.status)
    generalize w7_9'.setCell ⟨w.heap.size + 2, 9, none⟩ (.int .i64 a.status) = w7_10' at *
    replace G := G.trans g_10
    clear g_10
    have g_11 : Only [w.heap.size + 2] w7_10' (w7_10'.setCell ⟨w.heap.size + 2, 10, none⟩ (.int .i64 a.out)) := (Only.refl _ _).setCell _ _ (by simp)
    replace B_r := B_r.set_ 10 (.int .i64 a.out)
    generalize w7_10'.setCell ⟨w.heap.size + 2, 10, none⟩ (.int .i64 a.out) = w7' at *
    replace G := G.trans g_11
    clear g_11
    simp only [List.setIfInBounds_toArray, List.set_cons_zero, List.set_cons_succ] at B_r
    have V_w7' : Below w.heap.size w w7' := (V_w6').trans (G.below (V_w6').size (fun q hq => by have := (V_w6').size; simp at hq; omega))
    replace B_a := B_a.only G (by first | (simp; done) | (simp; omega))
    replace B_m := B_m.only G (by first | (simp; done) | (simp; omega))
    replace B_b := B_b.only G (by first | (simp; done) | (simp; omega))
    replace o5 := o5.only G (fun q hq hq' => by have := Q_o5.out q hq; simp at hq'; omega)
    replace o6 := o6.only G (fun q hq hq' => by have := Q_o6.out q hq; simp at hq'; omega)
    replace own4 := own4.only G (fun q hq hq' => by have := Q_own4.out q hq; simp at hq'; omega)
    have sG0 := G.size
    clear G
    clear V_w6'
    have S_w7' : w6'.heap.size + 0 ≤ w7'.heap.size := by omega
    clear sG0
    have e_r_0 : w7'.cell? ⟨w.heap.size + 2, 0, none⟩ = some (.int .i64 a.P) := B_r.cell 0
    have e_r_1 : w7'.cell? ⟨w.heap.size + 2, 1, none⟩ = some (.int .i64 a.party) := B_r.cell 1
    have e_r_2 : w7'.cell? ⟨w.heap.size + 2, 2, none⟩ = some (.int .i64 a.input) := B_r.cell 2
    have e_r_3 : w7'.cell? ⟨w.heap.size + 2, 3, none⟩ = some (.int .i64 a.mask) := B_r.cell 3
    have e_r_4 : w7'.cell? ⟨w.heap.size + 2, 4, none⟩ = some (.int .i64 a.delta) := B_r.cell 4
    have e_r_5 : w7'.cell? ⟨w.heap.size + 2, 5, none⟩ = some (.slice y.sa y.sn y.sc) := B_r.cell 5
    have e_r_6 : w7'.cell? ⟨w.heap.size + 2, 6, none⟩ = some (.slice y.ka y.kn y.kc) := B_r.cell 6
    have e_r_7 : w7'.cell? ⟨w.heap.size + 2, 7, none⟩ = some (.int .i64 (a.step + 1)) := B_r.cell 7
    have e_r_8 : w7'.cell? ⟨w.heap.size + 2, 8, none⟩ = some (.slice a7 (y.hn + 1) c7) := B_r.cell 8
    have e_r_9 : w7'.cell? ⟨w.heap.size + 2, 9, none⟩ = some (.int .i64 a.status) := B_r.cell 9
    have e_r_10 : w7'.cell? ⟨w.heap.size + 2, 10, none⟩ = some (.int .i64 a.out) := B_r.cell 10
    exact bodyPost_ret (v := .agg #[.int .i64 a.P, .int .i64 a.party, .int .i64 a.input, .int .i64 a.mask, .int .i64 a.delta, .slice y.sa y.sn y.sc, .slice y.ka y.kn y.kc, .int .i64 (a.step + 1), .slice a7 (y.hn + 1) c7, .int .i64 a.status, .int .i64 a.out]) (by simp [results, Tryd.results92, go_sem, e_r_0, e_r_1, e_r_2, e_r_3, e_r_4, e_r_5, e_r_6, e_r_7, e_r_8, e_r_9, e_r_10]) rfl ⟨⟨y.sa, y.sn, y.sc, y.ka, y.kn, y.kc, a7, y.hn + 1, c7⟩, _, rfl, ⟨OwnF.lower o5 (by omega), o6.lower (by omega), _, own4.lower (by omega), hd5.out, D56, E5, E6, rfl⟩, V_w7'⟩
end Go.Proofs.YtlmdckcohoddnaaDoor
namespace Go.Proofs.YtlmdckcohoddnaaDoor
open Go.RowKit
theorem em {p x y : Int} (k : Int) (h : x = y + p * k) : x % p = y % p := by rw [h]; exact Int.add_mul_emod_self_left y p k
theorem PlN.party01 {a : Pl} (h : PlN a) : a.party = 0 ∨ a.party = 1 := by have := h.pa; omega
def shfV (a : Pl) (v k : Int) : Int := if a.party = 0 then (v + k) % a.P else v
def mvd (a : Pl) (key k : Int) : Int := (if a.party = 1 then key - k * a.delta else key) % a.P
theorem shfV_rng {a : Pl} (h : PlN a) (v k : Int) (hv : 0 ≤ v ∧ v ≤ a.P - 1) : 0 ≤ shfV a v k ∧ shfV a v k ≤ a.P - 1 := by
  unfold shfV; split
  · exact emod_rng _ _ (by have := h.p1; omega)
  · exact hv
theorem mvd_rng {a : Pl} (h : PlN a) (key k : Int) : 0 ≤ mvd a key k ∧ mvd a key k ≤ a.P - 1 := emod_rng _ _ (by have := h.p1; omega)
theorem seV0_eq {a : Pl} (h : PlN a) : (shfV a (shV a 0) (f0 a) + (a.P - 1) * shV a 2) % a.P = seV0 a := by
  unfold seV0 shfV cmb mor
  rcases h.party01 with e | e
  · rw [if_pos e, if_neg (by omega), Int.emod_def (shV a 0 + f0 a) a.P]
    generalize (shV a 0 + f0 a) / a.P = q
    exact em (shV a 2 - q) (by grind)
  · rw [if_neg (by omega), if_pos e]
    exact em (shV a 2) (by grind)
theorem seT0_eq {a : Pl} : (shT a 0 + (a.P - 1) * shT a 2) % a.P = seT0 a := em (shT a 2) (by grind)
theorem seV1_eq {a : Pl} (h : PlN a) : (shfV a (shV a 1) (f1 a) + (a.P - 1) * shV a 3) % a.P = seV1 a := by
  unfold seV1 shfV cmb mor
  rcases h.party01 with e | e
  · rw [if_pos e, if_neg (by omega), Int.emod_def (shV a 1 + f1 a) a.P]
    generalize (shV a 1 + f1 a) / a.P = q
    exact em (shV a 3 - q) (by grind)
  · rw [if_neg (by omega), if_pos e]
    exact em (shV a 3) (by grind)
theorem seT1_eq {a : Pl} : (shT a 1 + (a.P - 1) * shT a 3) % a.P = seT1 a := em (shT a 3) (by grind)
theorem thT_eq {a : Pl} : ((shT a 4 + dI a * shT a 3) % a.P + eI a * shT a 2) % a.P = thT a := by
  unfold thT cmb
  rw [Int.emod_def (shT a 4 + dI a * shT a 3) a.P]
  generalize (shT a 4 + dI a * shT a 3) / a.P = q
  exact em (-q) (by grind)
theorem thV_eq {a : Pl} (h : PlN a) : shfV a (((shV a 4 + dI a * shV a 3) % a.P + eI a * shV a 2) % a.P) (dI a * eI a % a.P) = thV a := by
  unfold thV shfV cmb mor
  rw [Int.emod_def (shV a 4 + dI a * shV a 3) a.P]
  generalize (shV a 4 + dI a * shV a 3) / a.P = q
  rcases h.party01 with e | e
  · rw [if_pos e, if_neg (by omega), Int.emod_def (shV a 4 + dI a * shV a 3 - a.P * q + eI a * shV a 2) a.P, Int.emod_def (dI a * eI a) a.P]
    generalize (shV a 4 + dI a * shV a 3 - a.P * q + eI a * shV a 2) / a.P = q2
    generalize (dI a * eI a) / a.P = q3
    exact em (-q - q2 - q3) (by grind)
  · rw [if_neg (by omega), if_pos e]
    exact em (-q) (by grind)
theorem key0_eq {a : Pl} (h : PlN a) (hs : 1 ≤ a.step) : (mvd a (kyI a 0) (f0 a) - kyI a 2) % a.P = keyT a 1 0 (-1) 0 0 (f0 a) := by
  have hf := f0_rng h hs
  unfold mvd keyT cmb
  rw [Int.emod_eq_of_lt hf.1 (by omega)]
  rcases h.party01 with e | e
  · rw [if_neg (by omega), if_neg (by omega), Int.emod_def (kyI a 0) a.P]
    generalize kyI a 0 / a.P = q
    exact em (-q) (by grind)
  · rw [if_pos e, if_pos e, Int.emod_def (kyI a 0 - f0 a * a.delta) a.P]
    generalize (kyI a 0 - f0 a * a.delta) / a.P = q
    exact em (-q) (by grind)
theorem key1_eq {a : Pl} (h : PlN a) (hs : 1 ≤ a.step) : (mvd a (kyI a 1) (f1 a) - kyI a 3) % a.P = keyT a 0 1 0 (-1) 0 (f1 a) := by
  have hf := f1_rng h hs
  unfold mvd keyT cmb
  rw [Int.emod_eq_of_lt hf.1 (by omega)]
  rcases h.party01 with e | e
  · rw [if_neg (by omega), if_neg (by omega), Int.emod_def (kyI a 1) a.P]
    generalize kyI a 1 / a.P = q
    exact em (-q) (by grind)
  · rw [if_pos e, if_pos e, Int.emod_def (kyI a 1 - f1 a * a.delta) a.P]
    generalize (kyI a 1 - f1 a * a.delta) / a.P = q
    exact em (-q) (by grind)
theorem key2_eq {a : Pl} (h : PlN a) : mvd a (kyI a 4 + dI a * kyI a 3 + eI a * kyI a 2) (dI a * eI a % a.P) = keyT a 0 0 (eI a) (dI a) 1 (dI a * eI a) := by
  unfold mvd keyT cmb
  rcases h.party01 with e | e
  · rw [if_neg (by omega), if_neg (by omega)]
    exact em 0 (by grind)
  · rw [if_pos e, if_pos e]
    exact em 0 (by grind)
end Go.Proofs.YtlmdckcohoddnaaDoor
