/- Lemmas and walks that the claim's proof rests on, part 15. -/
import Derived.Deep.Slices
import Derived.Deep.Fields
import Derived.ChangeSame
import Derived.ProofKit
import Derived.Test.YtlmdckcohoddnaaDoorK2
import Derived.Test.YtlmdckcohoddnaaDoorK14
namespace Go.Proofs.YtlmdckcohoddnaaDoor
open Go.RowKit
theorem acc_all {a : Pl} {fr st : Int} {b : List Int} (h : accB a fr st b = true) : fr = 1 - a.party ∧ st = a.step ∧ b.length = blen a.step.toNat ∧ allB b 0 (a.P - 1) = true ∧ accT a b = true := by
  unfold accB bodyB at h
  simp only [Bool.and_eq_true, decide_eq_true_eq] at h
  exact ⟨h.1, h.2.1, h.2.2.1.1, h.2.2.1.2, h.2.2.2⟩
set_option maxHeartbeats 16000000 in
set_option maxRecDepth 100000 in
theorem ptTake_go (a : Pl) (x : PlX) (fr st : Int) (b : Option Addr) (n c : Nat) (body : List Int) (w : World) (h : PlR w x a.shares a.keys a.heard) (hM : Ints w b n c body) (hN : PlN a) (hs : a.step ≤ 2) (hacc : accB a fr st body = true) (hs2 : a.step < 2) :
    Calls Tryd.prog 91 #[.agg #[.int .i64 a.P, .int .i64 a.party, .int .i64 a.input, .int .i64 a.mask, .int .i64 a.delta, .slice x.sa x.sn x.sc, .slice x.ka x.kn x.kc, .int .i64 a.step, .slice x.ha x.hn x.hc, .int .i64 a.status, .int .i64 a.out], .agg #[.int .i64 fr, .int .i64 st, .slice b n c]] w fun e w' => ∃ y, e = .returned (.agg #[.int .i64 a.P, .int .i64 a.party, .int .i64 a.input, .int .i64 a.mask, .int .i64 a.delta, .slice y.sa y.sn y.sc, .slice y.ka y.kn y.kc, .int .i64 (a.step + 1), .slice y.ha y.hn y.hc, .int .i64 a.status, .int .i64 a.out]) ∧ PlR w' y a.shares a.keys (a.heard ++ [body]) ∧ Below w.heap.size w w' := by
  obtain ⟨hb1, hb2, hb3, hb4, hb5⟩ := acc_all hacc
  have hnn := hM.len
  subst hnn
  have hp1 := hN.p1
  have hp2 := hN.p2
  have hpa := hN.pa
  have hst := hN.stp
  have hnl := hM.le
  have t1 : IntKind.i64.wrap (1 - a.party) = 1 - a.party := IntWalk.i64_in _ (by omega)
  have t2 : IntKind.i64.wrap (a.P - 1) = a.P - 1 := IntWalk.i64_in _ (by omega)
  have CL : ∀ (W : World), Calls Tryd.prog 88 #[.int .i64 a.step] W fun e w' => e = .returned (.int .i64 (blen a.step.toNat)) ∧ Below W.heap.size W w' := fun W => by
    have := ptLength_any a.step.toNat W (by omega)
    rwa [Int.toNat_of_nonneg hst.1] at this
  have C4 := fun (W : World) (h2 : Ints W b body.length c body) => ((l1All_any b body.length c body 0 (a.P - 1) W h2).mono (fun _ _ ⟨he, hq⟩ => ⟨he, below_of_quiet hq⟩) : Calls Tryd.prog 100 #[.slice b body.length c, .int .i64 0, .int .i64 (a.P - 1)] W fun e w' => e = .returned (.bool (allB body 0 (a.P - 1))) ∧ Below W.heap.size W w')
  have C5 := fun (hl : body.length = blen a.step.toNat) (hr : ∀ v ∈ body, 0 ≤ v ∧ v ≤ a.P - 1) (W : World) (h2 : PlR W x a.shares a.keys a.heard) (h3 : Ints W b body.length c body) => ptHolds_any a x b body.length c body W h2 h3 hN hs hl hr
  have t5 : IntKind.i64.wrap (a.step + 1) = a.step + 1 := IntWalk.i64_in _ (by omega)
  have d7 : ((a.step + 1 == 3) : Bool) = false := by simp; omega
  have hn4 : body.length ≤ 10000000 := by rw [hb3]; have := (blen_bd a.step.toNat).2; omega
  have hhl := hN.hl
  subst hb1
  have d1 : (((1 - a.party) != 1 - a.party) : Bool) = false := by simp
  subst hb2
  have d2 : ((a.step != a.step) : Bool) = false := by simp
  generalize hbn : blen a.step.toNat = B at *
  have d3 : (((body.length : Int) != (B : Int)) : Bool) = false := by simp; omega
  rw [hb4] at C4
  replace C5 := C5 hb3 ((allB_iff _ _ _).1 hb4)
  rw [hb5] at C5
  have LH := Lib.hid h
  have LM := Lib.hid hM
  replace CL := Lib.hid CL
  replace C4 := Lib.hid C4
  replace C5 := Lib.hid C5
  have hst2 : a.step ≤ 2 := hs
  clear h hM hN hs hacc hb3 hb4 hb5 hs2 hbn
  go_enter Tryd.func91, Tryd.ntmps91
  go_upto_region 2 with fail
  have V_w1'_1 : Below w.heap.size w (w.alloc (.cells #[.int .i64 a.P, .int .i64 a.party, .int .i64 a.input, .int .i64 a.mask, .int .i64 a.delta, .slice x.sa x.sn x.sc, .slice x.ka x.kn x.kc, .int .i64 a.step, .slice x.ha x.hn x.hc, .int .i64 a.status, .int .i64 a.out] 31)) := ((Below.refl w.heap.size w)).alloc (by have := ((Below.refl w.heap.size w)).size; first | exact this | (simp at *; omega)) _
  have B_a : Blk (w.alloc (.cells #[.int .i64 a.P, .int .i64 a.party, .int .i64 a.input, .int .i64 a.mask, .int .i64 a.delta, .slice x.sa x.sn x.sc, .slice x.ka x.kn x.kc, .int .i64 a.step, .slice x.ha x.hn x.hc, .int .i64 a.status, .int .i64 a.out] 31)) (w.heap.size) 31 #[.int .i64 a.P, .int .i64 a.party, .int .i64 a.input, .int .i64 a.mask, .int .i64 a.delta, .slice x.sa x.sn x.sc, .slice x.ka x.kn x.kc, .int .i64 a.step, .slice x.ha x.hn x.hc, .int .i64 a.status, .int .i64 a.out] := by exact Blk.new w 31 #[.int .i64 a.P, .int .i64 a.party, .int .i64 a.input, .int .i64 a.mask, .int .i64 a.delta, .slice x.sa x.sn x.sc, .slice x.ka x.kn x.kc, .int .i64 a.step, .slice x.ha x.hn x.hc, .int .i64 a.status, .int .i64 a.out]
  have V_w1'_2 : Below w.heap.size w ((w.alloc (.cells #[.int .i64 a.P, .int .i64 a.party, .int .i64 a.input, .int .i64 a.mask, .int .i64 a.delta, .slice x.sa x.sn x.sc, .slice x.ka x.kn x.kc, .int .i64 a.step, .slice x.ha x.hn x.hc, .int .i64 a.status, .int .i64 a.out] 31)).alloc (.cells #[.int .i64 (1 - a.party), .int .i64 a.step, .slice b body.length c] 44)) := (V_w1'_1).alloc (by have := (V_w1'_1).size; first | exact this | (simp at *; omega)) _
  replace B_a := B_a.alloc (.cells #[.int .i64 (1 - a.party), .int .i64 a.step, .slice b body.length c] 44)
  have B_m : Blk ((w.alloc (.cells #[.int .i64 a.P, .int .i64 a.party, .int .i64 a.input, .int .i64 a.mask, .int .i64 a.delta, .slice x.sa x.sn x.sc, .slice x.ka x.kn x.kc, .int .i64 a.step, .slice x.ha x.hn x.hc, .int .i64 a.status, .int .i64 a.out] 31)).alloc (.cells #[.int .i64 (1 - a.party), .int .i64 a.step, .slice b body.length c] 44)) (w.heap.size + 1) 44 #[.int .i64 (1 - a.party), .int .i64 a.step, .slice b body.length c] := by simpa [World.setCell] using (Blk.new (w.alloc (.cells #[.int .i64 a.P, .int .i64 a.party, .int .i64 a.input, .int .i64 a.mask, .int .i64 a.delta, .slice x.sa x.sn x.sc, .slice x.ka x.kn x.kc, .int .i64 a.step, .slice x.ha x.hn x.hc, .int .i64 a.status, .int .i64 a.out] 31)) 44 #[.int .i64 (1 - a.party), .int .i64 a.step, .slice b body.length c])
  have V_w1'_3 : Below w.heap.size w (((w.alloc (.cells #[.int .i64 a.P, .int .i64 a.party, .int .i64 a.input, .int .i64 a.mask, .int .i64 a.delta, .slice x.sa x.sn x.sc, .slice x.ka x.kn x.kc, .int .i64 a.step, .slice x.ha x.hn x.hc, .int .i64 a.status, .int .i64 a.out] 31)).alloc (.cells #[.int .i64 (1 - a.party), .int .i64 a.step, .slice b body.length c] 44)).alloc (.cells #[.int .i64 0, .int .i64 0, .int .i64 0, .int .i64 0, .int .i64 0, .slice none 0 0, .slice none 0 0, .int .i64 0, .slice none 0 0, .int .i64 0, .int .i64 0] 31)) := (V_w1'_2).alloc (by have := (V_w1'_2).size; first | exact this | (simp at *; omega)) _
  replace B_a := B_a.alloc (.cells #[.int .i64 0, .int .i64 0, .int .i64 0, .int .i64 0, .int .i64 0, .slice none 0 0, .slice none 0 0, .int .i64 0, .slice none 0 0, .int .i64 0, .int .i64 0] 31)
  replace B_m := B_m.alloc (.cells #[.int .i64 0, .int .i64 0, .int .i64 0, .int .i64 0, .int .i64 0, .slice none 0 0, .slice none 0 0, .int .i64 0, .slice none 0 0, .int .i64 0, .int .i64 0] 31)
  have B_r : Blk (((w.alloc (.cells #[.int .i64 a.P, .int .i64 a.party, .int .i64 a.input, .int .i64 a.mask, .int .i64 a.delta, .slice x.sa x.sn x.sc, .slice x.ka x.kn x.kc, .int .i64 a.step, .slice x.ha x.hn x.hc, .int .i64 a.status, .int .i64 a.out] 31)).alloc (.cells #[.int .i64 (1 - a.party), .int .i64 a.step, .slice b body.length c] 44)).alloc (.cells #[.int .i64 0, .int .i64 0, .int .i64 0, .int .i64 0, .int .i64 0, .slice none 0 0, .slice none 0 0, .int .i64 0, .slice none 0 0, .int .i64 0, .int .i64 0] 31)) (w.heap.size + 2) 31 #[.int .i64 0, .int .i64 0, .int .i64 0, .int .i64 0, .int .i64 0, .slice none 0 0, .slice none 0 0, .int .i64 0, .slice none 0 0, .int .i64 0, .int .i64 0] := by simpa [World.setCell] using (Blk.new ((w.alloc (.cells #[.int .i64 a.P, .int .i64 a.party, .int .i64 a.input, .int .i64 a.mask, .int .i64 a.delta, .slice x.sa x.sn x.sc, .slice x.ka x.kn x.kc, .int .i64 a.step, .slice x.ha x.hn x.hc, .int .i64 a.status, .int .i64 a.out] 31)).alloc (.cells #[.int .i64 (1 - a.party), .int .i64 a.step, .slice b body.length c] 44)) 31 #[.int .i64 0, .int .i64 0, .int .i64 0, .int .i64 0, .int .i64 0, .slice none 0 0, .slice none 0 0, .int .i64 0, .slice none 0 0, .int .i64 0, .int .i64 0])
  have V_w1'_4 : Below w.heap.size w ((((w.alloc (.cells #[.int .i64 a.P, .int .i64 a.party, .int .i64 a.input, .int .i64 a.mask, .int .i64 a.delta, .slice x.sa x.sn x.sc, .slice x.ka x.kn x.kc, .int .i64 a.step, .slice x.ha x.hn x.hc, .int .i64 a.status, .int .i64 a.out] 31)).alloc (.cells #[.int .i64 (1 - a.party), .int .i64 a.step, .slice b body.length c] 44)).alloc (.cells #[.int .i64 0, .int .i64 0, .int .i64 0, .int .i64 0, .int .i64 0, .slice none 0 0, .slice none 0 0, .int .i64 0, .slice none 0 0, .int .i64 0, .int .i64 0] 31)).alloc (.cells #[.int .i64 a.P, .int .i64 a.party, .int .i64 a.input, .int .i64 a.mask, .int .i64 a.delta, .slice x.sa x.sn x.sc, .slice x.ka x.kn x.kc, .int .i64 a.step, .slice x.ha x.hn x.hc, .int .i64 a.status, .int .i64 a.out] 31)) := (V_w1'_3).alloc (by have := (V_w1'_3).size; first | exact this | (simp at *; omega)) _
  replace B_a := B_a.alloc (.cells #[.int .i64 a.P, .int .i64 a.party, .int .i64 a.input, .int .i64 a.mask, .int .i64 a.delta, .slice x.sa x.sn x.sc, .slice x.ka x.kn x.kc, .int .i64 a.step, .slice x.ha x.hn x.hc, .int .i64 a.status, .int .i64 a.out] 31)
  replace B_m := B_m.alloc (.cells #[.int .i64 a.P, .int .i64 a.party, .int .i64 a.input, .int .i64 a.mask, .int .i64 a.delta, .slice x.sa x.sn x.sc, .slice x.ka x.kn x.kc, .int .i64 a.step, .slice x.ha x.hn x.hc, .int .i64 a.status, .int .i64 a.out] 31)
  replace B_r := B_r.alloc (.cells #[.int .i64 a.P, .int .i64 a.party, .int .i64 a.input, .int .i64 a.mask, .int .i64 a.delta, .slice x.sa x.sn x.sc, .slice x.ka x.kn x.kc, .int .i64 a.step, .slice x.ha x.hn x.hc, .int .i64 a.status, .int .i64 a.out] 31)
  have B_b : Blk ((((w.alloc (.cells #[.int .i64 a.P, .int .i64 a.party, .int .i64 a.input, .int .i64 a.mask, .int .i64 a.delta, .slice x.sa x.sn x.sc, .slice x.ka x.kn x.kc, .int .i64 a.step, .slice x.ha x.hn x.hc, .int .i64 a.status, .int .i64 a.out] 31)).alloc (.cells #[.int .i64 (1 - a.party), .int .i64 a.step, .slice b body.length c] 44)).alloc (.cells #[.int .i64 0, .int .i64 0, .int .i64 0, .int .i64 0, .int .i64 0, .slice none 0 0, .slice none 0 0, .int .i64 0, .slice none 0 0, .int .i64 0, .int .i64 0] 31)).alloc (.cells #[.int .i64 a.P, .int .i64 a.party, .int .i64 a.input, .int .i64 a.mask, .int .i64 a.delta, .slice x.sa x.sn x.sc, .slice x.ka x.kn x.kc, .int .i64 a.step, .slice x.ha x.hn x.hc, .int .i64 a.status, .int .i64 a.out] 31)) (w.heap.size + 3) 31 #[.int .i64 a.P, .int .i64 a.party, .int .i64 a.input, .int .i64 a.mask, .int .i64 a.delta, .slice x.sa x.sn x.sc, .slice x.ka x.kn x.kc, .int .i64 a.step, .slice x.ha x.hn x.hc, .int .i64 a.status, .int .i64 a.out] := by simpa [World.setCell] using (Blk.new (((w.alloc (.cells #[.int .i64 a.P, .int .i64 a.party, .int .i64 a.input, .int .i64 a.mask, .int .i64 a.delta, .slice x.sa x.sn x.sc, .slice x.ka x.kn x.kc, .int .i64 a.step, .slice x.ha x.hn x.hc, .int .i64 a.status, .int .i64 a.out] 31)).alloc (.cells #[.int .i64 (1 - a.party), .int .i64 a.step, .slice b body.length c] 44)).alloc (.cells #[.int .i64 0, .int .i64 0, .int .i64 0, .int .i64 0, .int .i64 0, .slice none 0 0, .slice none 0 0, .int .i64 0, .slice none 0 0, .int .i64 0, .int .i64 0] 31)) 31 #[.int .i64 a.P, .int .i64 a.party, .int .i64 a.input, .int .i64 a.mask, .int .i64 a.delta, .slice x.sa x.sn x.sc, .slice x.ka x.kn x.kc, .int .i64 a.step, .slice x.ha x.hn x.hc, .int .i64 a.status, .int .i64 a.out])
  have S_w1' : w.heap.size + 4 ≤ ((((w.alloc (.cells #[.int .i64 a.P, .int .i64 a.party, .int .i64 a.input, .int .i64 a.mask, .int .i64 a.delta, .slice x.sa x.sn x.sc, .slice x.ka x.kn x.kc, .int .i64 a.step, .slice x.ha x.hn x.hc, .int .i64 a.status, .int .i64 a.out] 31)).alloc (.cells #[.int .i64 (1 - a.party), .int .i64 a.step, .slice b body.length c] 44)).alloc (.cells #[.int .i64 0, .int .i64 0, .int .i64 0, .int .i64 0, .int .i64 0, .slice none 0 0, .slice none 0 0, .int .i64 0, .slice none 0 0, .int .i64 0, .int .i64 0] 31)).alloc (.cells #[.int .i64 a.P, .int .i64 a.party, .int .i64 a.input, .int .i64 a.mask, .int .i64 a.delta, .slice x.sa x.sn x.sc, .slice x.ka x.kn x.kc, .int .i64 a.step, .slice x.ha x.hn x.hc, .int .i64 a.status, .int .i64 a.out] 31)).heap.size := by first | (simp; done) | (simp; omega) | (simp [World.setCell]; done) | (simp [World.setCell]; omega)
  generalize ((((w.alloc (.cells #[.int .i64 a.P, .int .i64 a.party, .int .i64 a.input, .int .i64 a.mask, .int .i64 a.delta, .slice x.sa x.sn x.sc, .slice x.ka x.kn x.kc, .int .i64 a.step, .slice x.ha x.hn x.hc, .int .i64 a.status, .int .i64 a.out] 31)).alloc (.cells #[.int .i64 (1 - a.party), .int .i64 a.step, .slice b body.length c] 44)).alloc (.cells #[.int .i64 0, .int .i64 0, .int .i64 0, .int .i64 0, .int .i64 0, .slice none 0 0, .slice none 0 0, .int .i64 0, .slice none 0 0, .int .i64 0, .int .i64 0] 31)).alloc (.cells #[.int .i64 a.P, .int .i64 a.party, .int .i64 a.input, .int .i64 a.mask, .int .i64 a.delta, .slice x.sa x.sn x.sc, .slice x.ka x.kn x.kc, .int .i64 a.step, .slice x.ha x.hn x.hc, .int .i64 a.status, .int .i64 a.out] 31)) = w1' at *
  clear V_w1'_1 V_w1'_2 V_w1'_3
  have V_w1' : Below w.heap.size w w1' := V_w1'_4
  clear V_w1'_4
  try rw [show w.heap.size + 1 + 1 + 1 = w.heap.size + 3 from rfl]
  try rw [show w.heap.size + 1 + 1 = w.heap.size + 2 from rfl]
  have e_a_0 : w1'.cell? ⟨w.heap.size, 0, none⟩ = some (.int .i64 a.P) := B_a.cell 0
  have e_a_1 : w1'.cell? ⟨w.heap.size, 1, none⟩ = some (.int .i64 a.party) := B_a.cell 1
  have e_a_2 : w1'.cell? ⟨w.heap.size, 2, none⟩ = some (.int .i64 a.input) := B_a.cell 2
  have e_a_3 : w1'.cell? ⟨w.heap.size, 3, none⟩ = some (.int .i64 a.mask) := B_a.cell 3
  have e_a_4 : w1'.cell? ⟨w.heap.size, 4, none⟩ = some (.int .i64 a.delta) := B_a.cell 4
  have e_a_5 : w1'.cell? ⟨w.heap.size, 5, none⟩ = some (.slice x.sa x.sn x.sc) := B_a.cell 5
  have e_a_6 : w1'.cell? ⟨w.heap.size, 6, none⟩ = some (.slice x.ka x.kn x.kc) := B_a.cell 6
  have e_a_7 : w1'.cell? ⟨w.heap.size, 7, none⟩ = some (.int .i64 a.step) := B_a.cell 7
  have e_a_8 : w1'.cell? ⟨w.heap.size, 8, none⟩ = some (.slice x.ha x.hn x.hc) := B_a.cell 8
  have e_a_9 : w1'.cell? ⟨w.heap.size, 9, none⟩ = some (.int .i64 a.status) := B_a.cell 9
  have e_a_10 : w1'.cell? ⟨w.heap.size, 10, none⟩ = some (.int .i64 a.out) := B_a.cell 10
  have e_m_0 : w1'.cell? ⟨w.heap.size + 1, 0, none⟩ = some (.int .i64 (1 - a.party)) := B_m.cell 0
  have e_m_1 : w1'.cell? ⟨w.heap.size + 1, 1, none⟩ = some (.int .i64 a.step) := B_m.cell 1
  have e_m_2 : w1'.cell? ⟨w.heap.size + 1, 2, none⟩ = some (.slice b body.length c) := B_m.cell 2
  have hRd := (LH.out.below V_w1').drew
  have hMd := (LM.out.below V_w1').below (Below.refl _ _).drew
  go_wp2
  go_region_held3 (fun W => W.cell? ⟨w.heap.size, 0, none⟩ = some (.int .i64 a.P) ∧ W.cell? ⟨w.heap.size, 1, none⟩ = some (.int .i64 a.party) ∧ W.cell? ⟨w.heap.size, 2, none⟩ = some (.int .i64 a.input) ∧ W.cell? ⟨w.heap.size, 3, none⟩ = some (.int .i64 a.mask) ∧ W.cell? ⟨w.heap.size, 4, none⟩ = some (.int .i64 a.delta) ∧ W.cell? ⟨w.heap.size, 5, none⟩ = some (.slice x.sa x.sn x.sc) ∧ W.cell? ⟨w.heap.size, 6, none⟩ = some (.slice x.ka x.kn x.kc) ∧ W.cell? ⟨w.heap.size, 7, none⟩ = some (.int .i64 a.step) ∧ W.cell? ⟨w.heap.size, 8, none⟩ = some (.slice x.ha x.hn x.hc) ∧ W.cell? ⟨w.heap.size, 9, none⟩ = some (.int .i64 a.status) ∧ W.cell? ⟨w.heap.size, 10, none⟩ = some (.int .i64 a.out) ∧ W.cell? ⟨w.heap.size + 1, 0, none⟩ = some (.int .i64 (1 - a.party)) ∧ W.cell? ⟨w.heap.size + 1, 1, none⟩ = some (.int .i64 a.step) ∧ W.cell? ⟨w.heap.size + 1, 2, none⟩ = some (.slice b body.length c))
    (first | exact ⟨keepC uh (keepC ua (keepC ul (e_a_0))), keepC uh (keepC ua (keepC ul (e_a_1))), keepC uh (keepC ua (keepC ul (e_a_2))), keepC uh (keepC ua (keepC ul (e_a_3))), keepC uh (keepC ua (keepC ul (e_a_4))), keepC uh (keepC ua (keepC ul (e_a_5))), keepC uh (keepC ua (keepC ul (e_a_6))), keepC uh (keepC ua (keepC ul (e_a_7))), keepC uh (keepC ua (keepC ul (e_a_8))), keepC uh (keepC ua (keepC ul (e_a_9))), keepC uh (keepC ua (keepC ul (e_a_10))), keepC uh (keepC ua (keepC ul (e_m_0))), keepC uh (keepC ua (keepC ul (e_m_1))), keepC uh (keepC ua (keepC ul (e_m_2)))⟩ | exact ⟨keepC ua (keepC ul (e_a_0)), keepC ua (keepC ul (e_a_1)), keepC ua (keepC ul (e_a_2)), keepC ua (keepC ul (e_a_3)), keepC ua (keepC ul (e_a_4)), keepC ua (keepC ul (e_a_5)), keepC ua (keepC ul (e_a_6)), keepC ua (keepC ul (e_a_7)), keepC ua (keepC ul (e_a_8)), keepC ua (keepC ul (e_a_9)), keepC ua (keepC ul (e_a_10)), keepC ua (keepC ul (e_m_0)), keepC ua (keepC ul (e_m_1)), keepC ua (keepC ul (e_m_2))⟩ | exact ⟨keepC ul (e_a_0), keepC ul (e_a_1), keepC ul (e_a_2), keepC ul (e_a_3), keepC ul (e_a_4), keepC ul (e_a_5), keepC ul (e_a_6), keepC ul (e_a_7), keepC ul (e_a_8), keepC ul (e_a_9), keepC ul (e_a_10), keepC ul (e_m_0), keepC ul (e_m_1), keepC ul (e_m_2)⟩ | exact ⟨e_a_0, e_a_1, e_a_2, e_a_3, e_a_4, e_a_5, e_a_6, e_a_7, e_a_8, e_a_9, e_a_10, e_m_0, e_m_1, e_m_2⟩ | go_keep)
    (first | (go_at_call 88; refine (CL.out _).mono ?_; rintro e wl ⟨rfl, ul⟩) | (go_at_call 100; refine (C4.out _ (hMd.below ul)).mono ?_; rintro e wa ⟨rfl, ua⟩) | (go_at_call 121; refine (C5.out _ ((hRd.below ul).below ua) ((hMd.below ul).below ua)).mono ?_; rintro e wh ⟨rfl, uh⟩))
  have u9 : Below w1'.heap.size w1' wh := (Below.refl _ _).drew.trans (ul.trans ((ua.trans (uh.mono ua.size)).mono ul.size))
  clear hRd hMd ul ua uh
  clear e_a_0 e_a_1 e_a_2 e_a_3 e_a_4 e_a_5 e_a_6 e_a_7 e_a_8 e_a_9 e_a_10 e_m_0 e_m_1 e_m_2
  replace B_a := B_a.below u9
  replace B_m := B_m.below u9
  replace B_r := B_r.below u9
  replace B_b := B_b.below u9
  have S_wh := u9.size
  have V_wh : Below w.heap.size w wh := V_w1'.trans (u9.mono V_w1'.size)
  clear V_w1'
  clear u9
  obtain ⟨hS0, hK0, rs, hH0, hD0⟩ := LH.out
  have hrl := hH0.len
  have hrn : x.hn ≤ 2 := by have : rs.length = a.heard.length := by rw [← hD0, datas_len]
                            omega
  have hHd := hH0.below V_wh
  have hMd := LM.out.below V_wh
  have SV := V_wh.size
  replace hD0 := Lib.hid hD0
  have e_a_8 : wh.cell? ⟨w.heap.size, 8, none⟩ = some (.slice x.ha x.hn x.hc) := B_a.cell 8
  have e_m_2 : wh.cell? ⟨w.heap.size + 1, 2, none⟩ = some (.slice b body.length c) := B_m.cell 2
  have e_b_8 : wh.cell? ⟨w.heap.size + 3, 8, none⟩ = some (.slice x.ha x.hn x.hc) := B_b.cell 8
  have f_b_8 : wh.frozen? ⟨w.heap.size + 3, 8, none⟩ = false := B_b.frozen 8
  go_wp2
  refine wp_region_noPanic ?_
  refine wp_region_held_drew (S := (fun W => Blk W (w.heap.size) 31 #[.int .i64 a.P, .int .i64 a.party, .int .i64 a.input, .int .i64 a.mask, .int .i64 a.delta, .slice x.sa x.sn x.sc, .slice x.ka x.kn x.kc, .int .i64 a.step, .slice x.ha x.hn x.hc, .int .i64 a.status, .int .i64 a.out] ∧ Blk W (w.heap.size + 1) 44 #[.int .i64 (1 - a.party), .int .i64 a.step, .slice b body.length c])) (by kernel_rfl) ?hS76 (fun hHeld => ?go76)
  case hS76 => exact ⟨B_a.drew, B_m.drew⟩
  refine wpAnyH_take (i := 1) (oi := { dst := some 48, op := _, type := _, pos := _, after := _, guard := _ }) (v := ?v1_77) rfl (by kernel_rfl) (by kernel_rfl) (by kernel_rfl) (fun _ _ _ h => h) (Or.inl ⟨by rfl, ?hy1_77⟩) hHeld ?rest1_77
  case hy1_77 => (intro w _; first | (go_simp; done) | (go_simp; with_reducible rfl) | (with_reducible rfl))
  (try simp only [Act.put, List.setIfInBounds_toArray, List.set_cons_zero, List.set_cons_succ])
  refine wpAnyH_take (i := 2) (oi := { dst := some 49, op := _, type := _, pos := _, after := _, guard := _ }) (v := ?v2_78) rfl (by kernel_rfl) (by kernel_rfl) (by kernel_rfl) (fun _ _ _ h => h) (Or.inl ⟨by rfl, ?hy2_78⟩) hHeld ?rest2_78
  case hy2_78 => (intro w hSw; obtain ⟨qS0, qS1⟩ := hSw; have cS0_0 := qS0.cell 0; have cS0_1 := qS0.cell 1; have cS0_2 := qS0.cell 2; have cS0_3 := qS0.cell 3; have cS0_4 := qS0.cell 4; have cS0_5 := qS0.cell 5; have cS0_6 := qS0.cell 6; have cS0_7 := qS0.cell 7; have cS0_8 := qS0.cell 8; have cS0_9 := qS0.cell 9; have cS0_10 := qS0.cell 10; have cS1_0 := qS1.cell 0; have cS1_1 := qS1.cell 1; have cS1_2 := qS1.cell 2; first | (go_simp; done) | (go_simp; with_reducible rfl) | (with_reducible rfl))
  (try simp only [Act.put, List.setIfInBounds_toArray, List.set_cons_zero, List.set_cons_succ])
  refine wpAnyH_take (i := 4) (oi := { dst := some 51, op := _, type := _, pos := _, after := _, guard := _ }) (v := ?v4_79) rfl (by kernel_rfl) (by kernel_rfl) (by kernel_rfl) (fun _ _ _ h => h) (Or.inl ⟨by rfl, ?hy4_79⟩) hHeld ?rest4_79
  case hy4_79 => (intro w _; first | (go_simp; done) | (go_simp; with_reducible rfl) | (with_reducible rfl))
  (try simp only [Act.put, List.setIfInBounds_toArray, List.set_cons_zero, List.set_cons_succ])
  refine wpAnyH_take (i := 5) (oi := { dst := some 52, op := _, type := _, pos := _, after := _, guard := _ }) (v := ?v5_80) rfl (by kernel_rfl) (by kernel_rfl) (by kernel_rfl) (fun _ _ _ h => h) (Or.inl ⟨by rfl, ?hy5_80⟩) hHeld ?rest5_80
  case hy5_80 => (intro w hSw; obtain ⟨qS0, qS1⟩ := hSw; have cS0_0 := qS0.cell 0; have cS0_1 := qS0.cell 1; have cS0_2 := qS0.cell 2; have cS0_3 := qS0.cell 3; have cS0_4 := qS0.cell 4; have cS0_5 := qS0.cell 5; have cS0_6 := qS0.cell 6; have cS0_7 := qS0.cell 7; have cS0_8 := qS0.cell 8; have cS0_9 := qS0.cell 9; have cS0_10 := qS0.cell 10; have cS1_0 := qS1.cell 0; have cS1_1 := qS1.cell 1; have cS1_2 := qS1.cell 2; first | (go_simp; done) | (go_simp; with_reducible rfl) | (with_reducible rfl))
  (try simp only [Act.put, List.setIfInBounds_toArray, List.set_cons_zero, List.set_cons_succ])
  refine wpAnyH_ready (rs := [0]) (by kernel_rfl) (by simp) ?_
  refine AllReadyH.cons (o := { dst := some 47, op := _, type := _, pos := _, after := _, guard := _ }) rfl (fun K hK => ?_) ?_
  have U0 : Below wh.heap.size wh (wh.drew.alloc (.cells #[] 23)) := (Below.refl _ _).drew.alloc (Nat.le_refl _) _
  go_simp
  refine hK.out _ _ ?_ (fun hHeld => ?_)
  · (exact ⟨Blk.below B_a U0, Blk.below B_m U0⟩)
  clear hK K
  (try simp only [Act.put, List.setIfInBounds_toArray, List.set_cons_zero, List.set_cons_succ])
  refine wpAnyH_ready (rs := [3]) (by kernel_rfl) (by simp) ?_
  refine AllReadyH.cons (o := { dst := some 50, op := _, type := _, pos := _, after := _, guard := _ }) rfl (fun K hK => ?_) ?_
  have RR := (hHd.below U0).row
  refine step_appSS (by rfl) _ _ (by rfl) wh.heap.size _ 0 0 [] (by rfl) (OwnC.nil0 _ _ _ _ _) x.ha x.hn x.hc (rs.map rowV) (by rfl) RR (one_rows rs) (by omega) U0.size ?_
  intro a5 c5 w5 oc5 u5 g5 m5
  simp only [Nat.zero_add, List.nil_append] at oc5 ⊢
  have U5 := U0.trans u5
  refine hK.out _ _ ?_ (fun hHeld => ?_)
  · (exact ⟨Blk.below B_a U5, Blk.below B_m U5⟩)
  clear hK K
  (try simp only [Act.put, List.setIfInBounds_toArray, List.set_cons_zero, List.set_cons_succ])
  refine wpAnyH_ready (rs := [6]) (by kernel_rfl) (by simp) ?_
  refine AllReadyH.cons (o := { dst := some 53, op := _, type := _, pos := _, after := _, guard := _ }) rfl (fun K hK => ?_) ?_
  go_simp
  refine (l1Own_any _ _ _ body _ (hMd.below U5) hn4).mono ?_
  rintro e wz ⟨b9, d9, rfl, o9, u9⟩
  have Uz := U5.trans (u9.mono U5.size)
  refine hK.out _ _ ?_ (fun hHeld => ?_)
  · (exact ⟨Blk.below B_a Uz, Blk.below B_m Uz⟩)
  clear hK K
  (try simp only [Act.put, List.setIfInBounds_toArray, List.set_cons_zero, List.set_cons_succ])
  refine wpAnyH_ready (rs := [7]) (by kernel_rfl) (by simp) ?_
  refine AllReadyH.cons (o := { dst := some 54, op := _, type := _, pos := _, after := _, guard := _ }) rfl (fun K hK => ?_) ?_
  have UA := Uz.alloc Uz.size (.cells #[.slice b9 body.length d9] 23)
  go_simp
  refine hK.out _ _ ?_ (fun hHeld => ?_)
  · (exact ⟨Blk.below B_a UA, Blk.below B_m UA⟩)
  clear hK K
  (try simp only [Act.put, List.setIfInBounds_toArray, List.set_cons_zero, List.set_cons_succ])
  refine wpAnyH_ready (rs := [8]) (by kernel_rfl) (by simp) ?_
  refine AllReadyH.cons (o := { dst := some 55, op := _, type := _, pos := _, after := _, guard := _ }) rfl (fun K hK => ?_) ?_
  have LIT := RowC.lit1 wz (rowV (b9, d9, body)) 23
  have o11 := Own.alloc o9 (.cells #[.slice b9 body.length d9] 23)
  have oc7 := OwnC.below (oc5.below u9) ((Below.refl _ _).alloc (Nat.le_refl _) (.cells #[.slice b9 body.length d9] 23))
  have F5 := oc5.feet
  refine step_appSS (by rfl) _ _ (by rfl) wh.heap.size a5 x.hn c5 (rs.map rowV) (by rfl) oc7 _ 1 1 [rowV (b9, d9, body)] (by rfl) LIT (by simp [rowV, Value.oneCell']) (by omega) UA.size ?_
  intro a8 c8 w8 oc8 u8 g8 m8
  have U8 := UA.trans u8
  have o12 := o11.only (Only.of_grown g8) (fun q hq hq' => by have := (o11.feet q hq).1; have := (F5 q hq').2; omega)
  have B8b := Blk.below B_b U8
  have y8 := B8b.cell 8
  have z8 := B8b.frozen 8
  refine hK.out _ _ ?_ (fun hHeld => ?_)
  · (exact ⟨Blk.below B_a U8, Blk.below B_m U8⟩)
  clear hK K
  (try simp only [Act.put, List.setIfInBounds_toArray, List.set_cons_zero, List.set_cons_succ])
  refine wpAnyH_take (i := 9) (oi := { dst := some 56, op := _, type := _, pos := _, after := _, guard := _ }) (v := ?v9_81) rfl (by kernel_rfl) (by kernel_rfl) (by kernel_rfl) (fun _ _ _ h => h) (Or.inl ⟨by rfl, ?hy9_81⟩) hHeld ?rest9_81
  case hy9_81 => (intro w _; first | (go_simp; done) | (go_simp; with_reducible rfl) | (with_reducible rfl))
  (try simp only [Act.put, List.setIfInBounds_toArray, List.set_cons_zero, List.set_cons_succ])
  refine wpAnyH_ready (rs := [10]) (by kernel_rfl) (by simp) ?_
  refine AllReadyH.cons (o := { dst := none, op := _, type := _, pos := _, after := _, guard := _ }) rfl (fun K hK => ?_) ?_
  go_simp
  refine hK.out _ _ ?_ (fun hHeld => ?_)
  · (exact ⟨Blk.only (Blk.below B_a U8) ((Only.refl [w.heap.size + 3] _).setCell ⟨w.heap.size + 3, 8, none⟩ _ (by simp)) (by simp), Blk.only (Blk.below B_m U8) ((Only.refl [w.heap.size + 3] _).setCell ⟨w.heap.size + 3, 8, none⟩ _ (by simp)) (by simp)⟩)
  clear hK K
  (try simp only [Act.put, List.setIfInBounds_toArray, List.set_cons_zero, List.set_cons_succ])
  refine wpAnyH_done (by kernel_rfl) ?_ _
  refine NoPanic.normal ?_
  rotate_left 1
  exact AllReadyH.nil
  exact AllReadyH.nil
  exact AllReadyH.nil
  exact AllReadyH.nil
  exact AllReadyH.nil
  exact AllReadyH.nil
  have SWW : w.heap.size + 4 ≤ wh.heap.size := by omega
  have Q_oc8 := Lib.hid oc8.feet
  have Q_o12 := Lib.hid (fun q hq => (show wh.heap.size ≤ q ∧ q < w8.heap.size from by have := o12.feet q hq; have := U5.size; omega))
  clear U0 U5 Uz UA u5 g5 m5 u9 oc5 oc7 o9 o11 LIT F5 u8 g8 m8 RR B8b y8 z8 hMd hHd
  clear e_a_8 e_m_2 e_b_8 f_b_8
  replace B_a := B_a.below U8
  replace B_m := B_m.below U8
  replace B_r := B_r.below U8
  replace B_b := B_b.below U8
  have S_w8 := U8.size
  have V_w8 : Below w.heap.size w w8 := V_wh.trans (U8.mono V_wh.size)
  clear V_wh
  clear U8
  have G_1 : Only [w.heap.size + 3] w8 (w8.setCell ⟨w.heap.size + 3, 8, none⟩ (.slice a8 (x.hn + 1) c8)) := (Only.refl _ _).setCell ⟨w.heap.size + 3, 8, none⟩ _ (by simp)
  have V_w2'_1 : Below w.heap.size w (w8.setCell ⟨w.heap.size + 3, 8, none⟩ (.slice a8 (x.hn + 1) c8)) := (V_w8).trans (G_1.below (V_w8).size (fun q hq => by have := (V_w8).size; simp at hq; omega))
  replace B_a := B_a.only G_1 (by first | (simp; done) | (simp; omega))
  replace B_m := B_m.only G_1 (by first | (simp; done) | (simp; omega))
  replace B_r := B_r.only G_1 (by first | (simp; done) | (simp; omega))
  replace B_b : Blk (w8.setCell ⟨w.heap.size + 3, 8, none⟩ (.slice a8 (x.hn + 1) c8)) (w.heap.size + 3) 31 #[.int .i64 a.P, .int .i64 a.party, .int .i64 a.input, .int .i64 a.mask, .int .i64 a.delta, .slice x.sa x.sn x.sc, .slice x.ka x.kn x.kc, .int .i64 a.step, .slice a8 (x.hn + 1) c8, .int .i64 a.status, .int .i64 a.out] := B_b.set_ 8 (.slice a8 (x.hn + 1) c8)
  replace oc8 := oc8.only G_1 (fun q hq hq' => by have := Q_oc8.out q hq; simp at hq'; omega)
  replace o12 := o12.only G_1 (fun q hq hq' => by have := Q_o12.out q hq; simp at hq'; omega)
  clear G_1
  have S_w2' : w8.heap.size + 0 ≤ (w8.setCell ⟨w.heap.size + 3, 8, none⟩ (.slice a8 (x.hn + 1) c8)).heap.size := by first | (simp; done) | (simp; omega) | (simp [World.setCell]; done) | (simp [World.setCell]; omega)
  generalize (w8.setCell ⟨w.heap.size + 3, 8, none⟩ (.slice a8 (x.hn + 1) c8)) = w2' at *
  have V_w2' : Below w.heap.size w w2' := V_w2'_1
  clear V_w8
  clear V_w2'_1
  have HD : datas' (rs ++ [(b9, d9, body)]) = a.heard ++ [body] := by rw [← hD0.out]; simp [datas']
  replace HD := Lib.hid HD
  have e_b_0 : w2'.cell? ⟨w.heap.size + 3, 0, none⟩ = some (.int .i64 a.P) := B_b.cell 0
  have f_b_0 : w2'.frozen? ⟨w.heap.size + 3, 0, none⟩ = false := B_b.frozen 0
  have e_b_1 : w2'.cell? ⟨w.heap.size + 3, 1, none⟩ = some (.int .i64 a.party) := B_b.cell 1
  have f_b_1 : w2'.frozen? ⟨w.heap.size + 3, 1, none⟩ = false := B_b.frozen 1
  have e_b_2 : w2'.cell? ⟨w.heap.size + 3, 2, none⟩ = some (.int .i64 a.input) := B_b.cell 2
  have f_b_2 : w2'.frozen? ⟨w.heap.size + 3, 2, none⟩ = false := B_b.frozen 2
  have e_b_3 : w2'.cell? ⟨w.heap.size + 3, 3, none⟩ = some (.int .i64 a.mask) := B_b.cell 3
  have f_b_3 : w2'.frozen? ⟨w.heap.size + 3, 3, none⟩ = false := B_b.frozen 3
  have e_b_4 : w2'.cell? ⟨w.heap.size + 3, 4, none⟩ = some (.int .i64 a.delta) := B_b.cell 4
  have f_b_4 : w2'.frozen? ⟨w.heap.size + 3, 4, none⟩ = false := B_b.frozen 4
  have e_b_5 : w2'.cell? ⟨w.heap.size + 3, 5, none⟩ = some (.slice x.sa x.sn x.sc) := B_b.cell 5
  have f_b_5 : w2'.frozen? ⟨w.heap.size + 3, 5, none⟩ = false := B_b.frozen 5
  have e_b_6 : w2'.cell? ⟨w.heap.size + 3, 6, none⟩ = some (.slice x.ka x.kn x.kc) := B_b.cell 6
  have f_b_6 : w2'.frozen? ⟨w.heap.size + 3, 6, none⟩ = false := B_b.frozen 6
  have e_b_7 : w2'.cell? ⟨w.heap.size + 3, 7, none⟩ = some (.int .i64 a.step) := B_b.cell 7
  have f_b_7 : w2'.frozen? ⟨w.heap.size + 3, 7, none⟩ = false := B_b.frozen 7
  have e_b_8 : w2'.cell? ⟨w.heap.size + 3, 8, none⟩ = some (.slice a8 (x.hn + 1) c8) := B_b.cell 8
  have f_b_8 : w2'.frozen? ⟨w.heap.size + 3, 8, none⟩ = false := B_b.frozen 8
  have e_b_9 : w2'.cell? ⟨w.heap.size + 3, 9, none⟩ = some (.int .i64 a.status) := B_b.cell 9
  have f_b_9 : w2'.frozen? ⟨w.heap.size + 3, 9, none⟩ = false := B_b.frozen 9
  have e_b_10 : w2'.cell? ⟨w.heap.size + 3, 10, none⟩ = some (.int .i64 a.out) := B_b.cell 10
  have f_b_10 : w2'.frozen? ⟨w.heap.size + 3, 10, none⟩ = false := B_b.frozen 10
  have e_r_0 : w2'.cell? ⟨w.heap.size + 2, 0, none⟩ = some (.int .i64 0) := B_r.cell 0
  have f_r_0 : w2'.frozen? ⟨w.heap.size + 2, 0, none⟩ = false := B_r.frozen 0
  have e_r_1 : w2'.cell? ⟨w.heap.size + 2, 1, none⟩ = some (.int .i64 0) := B_r.cell 1
  have f_r_1 : w2'.frozen? ⟨w.heap.size + 2, 1, none⟩ = false := B_r.frozen 1
  have e_r_2 : w2'.cell? ⟨w.heap.size + 2, 2, none⟩ = some (.int .i64 0) := B_r.cell 2
  have f_r_2 : w2'.frozen? ⟨w.heap.size + 2, 2, none⟩ = false := B_r.frozen 2
  have e_r_3 : w2'.cell? ⟨w.heap.size + 2, 3, none⟩ = some (.int .i64 0) := B_r.cell 3
  have f_r_3 : w2'.frozen? ⟨w.heap.size + 2, 3, none⟩ = false := B_r.frozen 3
  have e_r_4 : w2'.cell? ⟨w.heap.size + 2, 4, none⟩ = some (.int .i64 0) := B_r.cell 4
  have f_r_4 : w2'.frozen? ⟨w.heap.size + 2, 4, none⟩ = false := B_r.frozen 4
  have e_r_5 : w2'.cell? ⟨w.heap.size + 2, 5, none⟩ = some (.slice none 0 0) := B_r.cell 5
  have f_r_5 : w2'.frozen? ⟨w.heap.size + 2, 5, none⟩ = false := B_r.frozen 5
  have e_r_6 : w2'.cell? ⟨w.heap.size + 2, 6, none⟩ = some (.slice none 0 0) := B_r.cell 6
  have f_r_6 : w2'.frozen? ⟨w.heap.size + 2, 6, none⟩ = false := B_r.frozen 6
  have e_r_7 : w2'.cell? ⟨w.heap.size + 2, 7, none⟩ = some (.int .i64 0) := B_r.cell 7
  have f_r_7 : w2'.frozen? ⟨w.heap.size + 2, 7, none⟩ = false := B_r.frozen 7
  have e_r_8 : w2'.cell? ⟨w.heap.size + 2, 8, none⟩ = some (.slice none 0 0) := B_r.cell 8
  have f_r_8 : w2'.frozen? ⟨w.heap.size + 2, 8, none⟩ = false := B_r.frozen 8
  have e_r_9 : w2'.cell? ⟨w.heap.size + 2, 9, none⟩ = some (.int .i64 0) := B_r.cell 9
  have f_r_9 : w2'.frozen? ⟨w.heap.size + 2, 9, none⟩ = false := B_r.frozen 9
  have e_r_10 : w2'.cell? ⟨w.heap.size + 2, 10, none⟩ = some (.int .i64 0) := B_r.cell 10
  have f_r_10 : w2'.frozen? ⟨w.heap.size + 2, 10, none⟩ = false := B_r.frozen 10
  go_wp2
  clear e_b_0 f_b_0 e_b_1 f_b_1 e_b_2 f_b_2 e_b_3 f_b_3 e_b_4 f_b_4 e_b_5 f_b_5 e_b_6 f_b_6 e_b_7 f_b_7 e_b_8 f_b_8 e_b_9 f_b_9 e_b_10 f_b_10 e_r_0 f_r_0 e_r_1 f_r_1 e_r_2 f_r_2 e_r_3 f_r_3 e_r_4 f_r_4 e_r_5 f_r_5 e_r_6 f_r_6 e_r_7 f_r_7 e_r_8 f_r_8 e_r_9 f_r_9 e_r_10 f_r_10
  have g_1 : Only [w.heap.size + 3] w2' (w2'.setCell ⟨w.heap.size + 3, 7, none⟩ (.int .i64 (a.step + 1))) := (Only.refl _ _).setCell _ _ (by simp)
  replace B_b := B_b.set_ 7 (.int .i64 (a.step + 1))
  generalize w2'.setCell ⟨w.heap.size + 3, 7, none⟩ (.int .i64 (a.step + 1)) = w3_1' at *
  have G := g_1
  clear g_1
  simp only [List.setIfInBounds_toArray, List.set_cons_zero, List.set_cons_succ] at B_b
  have V_w3'_0 : Below w.heap.size w w3_1' := (V_w2').trans (G.below (V_w2').size (fun q hq => by have := (V_w2').size; simp at hq; omega))
  replace B_a := B_a.only G (by first | (simp; done) | (simp; omega))
  replace B_m := B_m.only G (by first | (simp; done) | (simp; omega))
  replace B_r := B_r.only G (by first | (simp; done) | (simp; omega))
  replace oc8 := oc8.only G (fun q hq hq' => by have := Q_oc8.out q hq; simp at hq'; omega)
  replace o12 := o12.only G (fun q hq hq' => by have := Q_o12.out q hq; simp at hq'; omega)
  have sG0 := G.size
  clear G
  clear V_w2'
  have g_2 : Only [w.heap.size + 2] w3_1' (w3_1'.setCell ⟨w.heap.size + 2, 0, none⟩ (.int .i64 a.P)) := (Only.refl _ _).setCell _ _ (by simp)
  replace B_r := B_r.set_ 0 (.int .i64 a.P)
  generalize w3_1'.setCell ⟨w.heap.size + 2, 0, none⟩ (.int .i64 a.P) = w3_2' at *
  have G := g_2
  clear g_2
  have g_3 : Only [w.heap.size + 2] w3_2' (w3_2'.setCell ⟨w.heap.size + 2, 1, none⟩ (.int .i64 a.party)) := (Only.refl _ _).setCell _ _ (by simp)
  replace B_r := B_r.set_ 1 (.int .i64 a.party)
  generalize w3_2'.setCell ⟨w.heap.size + 2, 1, none⟩ (.int .i64 a.party) = w3_3' at *
  replace G := G.trans g_3
  clear g_3
  have g_4 : Only [w.heap.size + 2] w3_3' (w3_3'.setCell ⟨w.heap.size + 2, 2, none⟩ (.int .i64 a.input)) := (Only.refl _ _).setCell _ _ (by simp)
  replace B_r := B_r.set_ 2 (.int .i64 a.input)
  generalize w3_3'.setCell ⟨w.heap.size + 2, 2, none⟩ (.int .i64 a.input) = w3_4' at *
  replace G := G.trans g_4
  clear g_4
  have g_5 : Only [w.heap.size + 2] w3_4' (w3_4'.setCell ⟨w.heap.size + 2, 3, none⟩ (.int .i64 a.mask)) := (Only.refl _ _).setCell _ _ (by simp)
  replace B_r := B_r.set_ 3 (.int .i64 a.mask)
  generalize w3_4'.setCell ⟨w.heap.size + 2, 3, none⟩ (.int .i64 a.mask) = w3_5' at *
  replace G := G.trans g_5
  clear g_5
  have g_6 : Only [w.heap.size + 2] w3_5' (w3_5'.setCell ⟨w.heap.size + 2, 4, none⟩ (.int .i64 a.delta)) := (Only.refl _ _).setCell _ _ (by simp)
  replace B_r := B_r.set_ 4 (.int .i64 a.delta)
  generalize w3_5'.setCell ⟨w.heap.size + 2, 4, none⟩ (.int .i64 a.delta) = w3_6' at *
  replace G := G.trans g_6
  clear g_6
  have g_7 : Only [w.heap.size + 2] w3_6' (w3_6'.setCell ⟨w.heap.size + 2, 5, none⟩ (.slice x.sa x.sn x.sc)) := (Only.refl _ _).setCell _ _ (by simp)
  replace B_r := B_r.set_ 5 (.slice x.sa x.sn x.sc)
  generalize w3_6'.setCell ⟨w.heap.size + 2, 5, none⟩ (.slice x.sa x.sn x.sc) = w3_7' at *
  replace G := G.trans g_7
  clear g_7
  have g_8 : Only [w.heap.size + 2] w3_7' (w3_7'.setCell ⟨w.heap.size + 2, 6, none⟩ (.slice x.ka x.kn x.kc)) := (Only.refl _ _).setCell _ _ (by simp)
  replace B_r := B_r.set_ 6 (.slice x.ka x.kn x.kc)
  generalize w3_7'.setCell ⟨w.heap.size + 2, 6, none⟩ (.slice x.ka x.kn x.kc) = w3_8' at *
  replace G := G.trans g_8
  clear g_8
  have g_9 : Only [w.heap.size + 2] w3_8' (w3_8'.setCell ⟨w.heap.size + 2, 7, none⟩ (.int .i64 (a.step + 1))) := (Only.refl _ _).setCell _ _ (by simp)
  replace B_r := B_r.set_ 7 (.int .i64 (a.step + 1))
  generalize w3_8'.setCell ⟨w.heap.size + 2, 7, none⟩ (.int .i64 (a.step + 1)) = w3_9' at *
  replace G := G.trans g_9
  clear g_9
  have g_10 : Only [w.heap.size + 2] w3_9' (w3_9'.setCell ⟨w.heap.size + 2, 8, none⟩ (.slice a8 (x.hn + 1) c8)) := (Only.refl _ _).setCell _ _ (by simp)
  replace B_r := B_r.set_ 8 (.slice a8 (x.hn + 1) c8)
  generalize w3_9'.setCell ⟨w.heap.size + 2, 8, none⟩ (.slice a8 (x.hn + 1) c8) = w3_10' at *
  replace G := G.trans g_10
  clear g_10
  have g_11 : Only [w.heap.size + 2] w3_10' (w3_10'.setCell ⟨w.heap.size + 2, 9, none⟩ (.int .i64 a.status)) := (Only.refl _ _).setCell _ _ (by simp)
  replace B_r := B_r.set_ 9 (.int .i64 a.status)
  generalize w3_10'.setCell ⟨w.heap.size + 2, 9, none⟩ (.int .i64 a.status) = w3_11' at *
  replace G := G.trans g_11
  clear g_11
  have g_12 : Only [w.heap.size + 2] w3_11' (w3_11'.setCell ⟨w.heap.size + 2, 10, none⟩ (.int .i64 a.out)) := (Only.refl _ _).setCell _ _ (by simp)
  replace B_r := B_r.set_ 10 (.int .i64 a.out)
  generalize w3_11'.setCell ⟨w.heap.size + 2, 10, none⟩ (.int .i64 a.out) = w3' at *
  replace G := G.trans g_12
  clear g_12
  simp only [List.setIfInBounds_toArray, List.set_cons_zero, List.set_cons_succ] at B_r
  have V_w3' : Below w.heap.size w w3' := (V_w3'_0).trans (G.below (V_w3'_0).size (fun q hq => by have := (V_w3'_0).size; simp at hq; omega))
  replace B_a := B_a.only G (by first | (simp; done) | (simp; omega))
  replace B_m := B_m.only G (by first | (simp; done) | (simp; omega))
  replace B_b := B_b.only G (by first | (simp; done) | (simp; omega))
  replace oc8 := oc8.only G (fun q hq hq' => by have := Q_oc8.out q hq; simp at hq'; omega)
  replace o12 := o12.only G (fun q hq hq' => by have := Q_o12.out q hq; simp at hq'; omega)
  have sG1 := G.size
  clear G
  clear V_w3'_0
  have S_w3' : w2'.heap.size + 0 ≤ w3'.heap.size := by omega
  clear sG0 sG1
  have e_r_0 : w3'.cell? ⟨w.heap.size + 2, 0, none⟩ = some (.int .i64 a.P) := B_r.cell 0
  have e_r_1 : w3'.cell? ⟨w.heap.size + 2, 1, none⟩ = some (.int .i64 a.party) := B_r.cell 1
  have e_r_2 : w3'.cell? ⟨w.heap.size + 2, 2, none⟩ = some (.int .i64 a.input) := B_r.cell 2
  have e_r_3 : w3'.cell? ⟨w.heap.size + 2, 3, none⟩ = some (.int .i64 a.mask) := B_r.cell 3
  have e_r_4 : w3'.cell? ⟨w.heap.size + 2, 4, none⟩ = some (.int .i64 a.delta) := B_r.cell 4
  have e_r_5 : w3'.cell? ⟨w.heap.size + 2, 5, none⟩ = some (.slice x.sa x.sn x.sc) := B_r.cell 5
  have e_r_6 : w3'.cell? ⟨w.heap.size + 2, 6, none⟩ = some (.slice x.ka x.kn x.kc) := B_r.cell 6
  have e_r_7 : w3'.cell? ⟨w.heap.size + 2, 7, none⟩ = some (.int .i64 (a.step + 1)) := B_r.cell 7
  have e_r_8 : w3'.cell? ⟨w.heap.size + 2, 8, none⟩ = some (.slice a8 (x.hn + 1) c8) := B_r.cell 8
  have e_r_9 : w3'.cell? ⟨w.heap.size + 2, 9, none⟩ = some (.int .i64 a.status) := B_r.cell 9
  have e_r_10 : w3'.cell? ⟨w.heap.size + 2, 10, none⟩ = some (.int .i64 a.out) := B_r.cell 10
  have HR : RowC w3' a8 (x.hn + 1) c8 1 ((rs ++ [(b9, d9, body)]).map rowV) := by rw [List.map_append]; exact oc8.row
  exact bodyPost_ret (v := .agg #[.int .i64 a.P, .int .i64 a.party, .int .i64 a.input, .int .i64 a.mask, .int .i64 a.delta, .slice x.sa x.sn x.sc, .slice x.ka x.kn x.kc, .int .i64 (a.step + 1), .slice a8 (x.hn + 1) c8, .int .i64 a.status, .int .i64 a.out]) (by simp [results, Tryd.results91, go_sem, e_r_0, e_r_1, e_r_2, e_r_3, e_r_4, e_r_5, e_r_6, e_r_7, e_r_8, e_r_9, e_r_10]) rfl ⟨⟨x.sa, x.sn, x.sc, x.ka, x.kn, x.kc, a8, x.hn + 1, c8⟩, rfl, ⟨hS0.below V_w3', hK0.below V_w3', rs ++ [(b9, d9, body)], ⟨HR, fun r hr => by
    rcases List.mem_append.1 hr with hr | hr
    · exact (hH0.inn r hr).below V_w3'
    · simp only [List.mem_singleton] at hr; subst hr; exact o12.ints⟩, HD.out⟩, V_w3'⟩
end Go.Proofs.YtlmdckcohoddnaaDoor
namespace Go.Proofs.YtlmdckcohoddnaaDoor
open Go.ChangeShapes Go.WideShapes Go.Deep Go.RowKit
section
variable {H : Type} {enc : TypeId × Value → H} {P : Program} {w : World} {base : Nat} {spare : Nat → Bool} {held : Bool}
theorem open_struct {r : Reach} {b0 : Nat} {t : TypeId} {fs : Array Field} {v : Value} {d : DataW H} {p : List MemPlace} (hs : P.underlying t = some (.struct fs)) (hone : oneCellFields P fs = true) (hC : P.cellsOf t = fs.size)
    (hv : Value.okWide P w r b0 t v) (h : DataW.Trod enc P w base spare held t v d p) :
    ∃ (vs : List Value) (n : Nat), v = .agg vs.toArray ∧ vs.length = fs.size ∧ ∀ (j : Nat) (f : Field), fs[j]? = some f → ∃ u y, vs[j]? = some u ∧ DataW.trod enc P w base spare held n f.type [u] = some y := by
  obtain ⟨cs, rfl, hsz⟩ := okWide_struct hs hv
  obtain ⟨fuel, hf⟩ := h
  obtain ⟨ys, n, _, _, _, hyl, hg⟩ := DataW.trod_struct hs hf
  refine ⟨cs.toList, n, rfl, by simp [hsz, hC], fun j f hj => ?_⟩
  obtain ⟨ho, hk⟩ := hone_of hone j f hj
  have hjl : j < fs.size := (Array.getElem?_eq_some_iff.1 hj).1
  have hcl : j < cs.toList.length := by simp [hsz, hC, hjl]
  have h1 := hg j f hj
  rw [ho, hk] at h1
  have hone' : ((Value.agg cs).cells.toList.drop j).take 1 = [cs.toList[j]] := by
    show (cs.toList.drop j).take 1 = _
    rw [List.drop_eq_getElem_cons hcl]
    rfl
  rw [hone'] at h1
  have hys : ys[j]? = some (ys[j]'(by omega)) := List.getElem?_eq_getElem (by omega)
  exact ⟨_, _, List.getElem?_eq_getElem hcl, h1.trans hys⟩
theorem field_int {t : TypeId} {k : IntKind} {n : Nat} {u : Value} {y : DataW H × List MemPlace} (ht : P.underlying t = some (.int k)) (h : DataW.trod enc P w base spare held n t [u] = some y) : ∃ x, u = .int k x ∧ (Lit.int k x).wf = true := by
  obtain ⟨x, h1, _, h3⟩ := DataW.trod_int ht h
  simp at h1
  exact ⟨x, h1, h3⟩
theorem field_ints {t e : TypeId} {n : Nat} {u : Value} {y : DataW H × List MemPlace} (ht : P.underlying t = some (.slice e)) (he : P.underlying e = some (.int .i64)) (hc : P.cellsOf e = 1) (h : DataW.trod enc P w base (fun _ => true) held n t [u] = some y) :
    ∃ a m c l, u = .slice a m c ∧ Ints w a m c l ∧ Wf l := by
  rcases open_ints ht he hc h with ⟨hcs, _⟩ | ⟨x, l, c, zs, hcs, _, hl, hm, hz, _, hcell, hwz⟩
  · simp at hcs
    exact ⟨none, 0, 0, [], hcs, Ints.nil0 w, fun x hx => by cases hx⟩
  · simp at hcs
    exact ⟨some x, l, c, zs.take l, hcs, Ints.of_row hl hm (by simpa using hz) hcell, fun x hx => wf_range (hwz x (List.mem_of_mem_take hx))⟩
/-- The number in a cell. -/
def cellI (w : World) (a : Addr) (q : Nat) : Int := match w.cell? (a.add q) with
  | some (.int .i64 x) => x
  | _ => 0
theorem field_flat {t e : TypeId} {fs : Array Field} {n : Nat} {u : Value} {y : DataW H × List MemPlace} (ht : P.underlying t = some (.slice e)) (he : P.underlying e = some (.struct fs)) (hone : oneCellFields P fs = true) (hC : P.cellsOf e = fs.size)
    (hpos : 0 < fs.size) (hint : ∀ (j : Nat) (f : Field), fs[j]? = some f → P.underlying f.type = some (.int .i64)) (h : DataW.trod enc P w base (fun _ => true) held n t [u] = some y) :
    ∃ a m c l, u = .slice a m c ∧ Flat fs.size w a m c l ∧ Wf l := by
  rcases open_slice ht h with ⟨hcs, _⟩ | ⟨x, l, c, m, n1, _, _, hcs, _, hl, hm, hmm, _, hi⟩
  · simp at hcs
    exact ⟨none, 0, 0, [], hcs, ⟨by simp, Nat.le_refl _, Nat.zero_le _, fun _ => rfl, 0, 0, fun h => absurd h (by omega), fun i u hu => by simp at hu⟩, fun x hx => by cases hx⟩
  · simp at hcs hmm
    subst hmm
    have each : ∀ q, q < l * fs.size → w.cell? (x.add q) = some (.int .i64 (cellI w x q)) ∧ (Lit.int .i64 (cellI w x q)).wf = true := fun q hq => by
      have hq1 : q / fs.size < m := Nat.lt_of_lt_of_le (Nat.div_lt_of_lt_mul (by rw [Nat.mul_comm]; exact hq)) hl
      have hq2 : q % fs.size < fs.size := Nat.mod_lt _ hpos
      have hfq := Array.getElem?_eq_getElem hq2
      obtain ⟨es, hes, hte⟩ := hi _ hq1
      obtain ⟨_, hel, hea⟩ := World.cells?_some hes
      obtain ⟨gs, _, _, _, _, hgl, hg⟩ := DataW.trod_struct he hte
      obtain ⟨ho, hk⟩ := hone_of hone _ _ hfq
      have hin : q % fs.size < es.length := by rw [hel, hC]; exact hq2
      have hy := hg _ _ hfq
      rw [ho, hk, List.drop_eq_getElem_cons hin, List.take_succ_cons, List.take_zero, List.getElem?_eq_getElem (show q % fs.size < gs.length by omega)] at hy
      have hc := hea _ (show q % fs.size < P.cellsOf e by rw [hC]; exact hq2)
      rw [Go.Deep.add_add, hC, Nat.div_add_mod', List.getElem?_eq_getElem hin] at hc
      obtain ⟨z, hz0, hz⟩ := field_int (hint _ _ hfq) hy
      rw [hz0] at hc
      have : cellI w x q = z := by unfold cellI; rw [hc]
      rw [this]
      exact ⟨hc, hz⟩
    have hcell : ∀ i, i < ((List.range (l * fs.size)).map (cellI w x)).length → w.cell? (x.add i) = some (.int .i64 (((List.range (l * fs.size)).map (cellI w x)).getD i 0)) := fun i hi => by
      simp at hi
      rw [(each i hi).1]
      simp [List.getD, hi]
    refine ⟨some x, l, m, (List.range (l * fs.size)).map (cellI w x), hcs, ?_, fun z hz => ?_⟩
    · refine ⟨by simp, hl, hm, fun h => (by cases h), ?_⟩
      by_cases h0 : 0 < l * fs.size
      · obtain ⟨b, off, rfl, hc⟩ := ints_at hcell (by simpa using h0)
        refine ⟨b, off, fun _ => rfl, fun i u hu => ?_⟩
        rw [List.getElem?_map] at hu
        obtain ⟨z, hz, rfl⟩ := Option.map_eq_some_iff.1 hu
        have hil := (List.getElem?_eq_some_iff.1 hz).1
        rw [hc i hil]
        simp [List.getD, hz]
      · have hl0 : l = 0 := by
          rcases Nat.eq_zero_or_pos l with h | h
          · exact h
          · exact absurd (Nat.mul_pos h hpos) h0
        subst hl0
        exact ⟨0, 0, fun h => absurd h (by omega), fun i u hu => by simp at hu⟩
    · obtain ⟨q, hq, rfl⟩ := List.mem_map.1 hz
      exact wf_range (each q (List.mem_range.1 hq)).2
end
theorem list3 {l : List Value} (h : l.length = 3) : ∃ a b c, l = [a, b, c] := by
  match l, h with
  | [a, b, c], _ => exact ⟨a, b, c, rfl⟩
theorem list11 {l : List Value} (h : l.length = 11) : ∃ a b c d e f g h i j k, l = [a, b, c, d, e, f, g, h, i, j, k] := by
  match l, h with
  | [a, b, c, d, e, f, g, h, i, j, k], _ => exact ⟨a, b, c, d, e, f, g, h, i, j, k, rfl⟩
end Go.Proofs.YtlmdckcohoddnaaDoor
namespace Go.Proofs.YtlmdckcohoddnaaDoor
open Go.ChangeShapes Go.WideShapes Go.Deep Go.RowKit
section
variable {H : Type} {enc : TypeId × Value → H} {P : Program} {w : World} {base : Nat} {held : Bool}
theorem chunk {xs : List Value} {es : List Value} {i sz : Nat} (he : es.length = sz) (h : ∀ j, j < sz → xs[i + j]? = es[j]?) : (xs.drop i).take sz = es := by
  apply List.ext_getElem?
  intro j
  by_cases hj : j < sz
  · rw [List.getElem?_take_of_lt hj, List.getElem?_drop, h j hj]
  · rw [List.getElem?_eq_none (by simp; omega), List.getElem?_eq_none (by omega)]
theorem field_row {t e sz : Nat} {n : Nat} {u : Value} {y : DataW H × List MemPlace} (ht : P.underlying t = some (.slice e)) (hC : P.cellsOf e = sz) (hpos : 0 < sz) (h : DataW.trod enc P w base (fun _ => true) held n t [u] = some y) :
    ∃ a m c xs k, u = .slice a m c ∧ RowC w a m c sz xs ∧ ∀ q, q < m → ∃ z, DataW.trod enc P w base (fun _ => true) held k e ((xs.drop (q * sz)).take sz) = some z := by
  rcases open_slice ht h with ⟨hcs, _⟩ | ⟨x, l, c, m, n1, _, _, hcs, _, hl, hm, hmm, _, hi⟩
  · simp at hcs
    exact ⟨none, 0, 0, [], 0, hcs, ⟨by simp, Nat.le_refl _, Nat.zero_le _, fun _ => rfl, 0, 0, fun h => absurd h (by omega), fun i u hu => by simp at hu⟩, fun q hq => absurd hq (by omega)⟩
  · simp at hcs hmm
    subst hmm
    have each : ∀ q j, q < l → j < sz → ∃ es, DataW.trod enc P w base (fun _ => true) held n1 e es = some (‹Nat → DataW H› q, ‹Nat → List MemPlace› q) ∧ es.length = sz ∧ w.cell? (x.add (q * sz + j)) = es[j]? := fun q j hq hj => by
      obtain ⟨es, hes, hte⟩ := hi q (by omega)
      obtain ⟨_, hel, hea⟩ := World.cells?_some hes
      rw [hC] at hel hea
      have hc := hea j hj
      rw [Go.Deep.add_add] at hc
      exact ⟨es, hte, hel, hc⟩
    have some_ : ∀ i, i < l * sz → ∃ v, w.cell? (x.add i) = some v := fun i h => by
      have hq : i / sz < l := Nat.div_lt_of_lt_mul (by rw [Nat.mul_comm]; exact h)
      obtain ⟨es, _, hl2, hc⟩ := each (i / sz) (i % sz) hq (Nat.mod_lt _ hpos)
      rw [Nat.div_add_mod'] at hc
      have : i % sz < es.length := by rw [hl2]; exact Nat.mod_lt _ hpos
      exact ⟨_, by rw [hc, List.getElem?_eq_getElem this]⟩
    let xs : List Value := (List.range (l * sz)).map fun i => (w.cell? (x.add i)).getD (.bool false)
    have hxs : ∀ i, i < l * sz → xs[i]? = w.cell? (x.add i) := fun i hi => by
      obtain ⟨v, hv⟩ := some_ i hi
      show ((List.range (l * sz)).map _)[i]? = _
      rw [List.getElem?_map, List.getElem?_range hi, Option.map_some, hv]
      rfl
    have hxl : xs.length = l * sz := by show ((List.range (l * sz)).map _).length = _; simp
    refine ⟨some x, l, m, xs, n1, hcs, ⟨hxl, hl, hm, (fun h => by cases h), ?_⟩, fun q hq => ?_⟩
    · by_cases h0 : 0 < l * sz
      · obtain ⟨v, hv⟩ := some_ 0 h0
        obtain ⟨b, off, spot⟩ := x
        have hspot : spot = none := by simpa [Addr.add] using World.cell?_spot hv
        subst hspot
        refine ⟨b, off, fun _ => rfl, fun i u hu => ?_⟩
        have hil : i < l * sz := by rw [← hxl]; exact (List.getElem?_eq_some_iff.1 hu).1
        rw [← Go.WideShapes.add_plain, ← hxs i hil]
        exact hu
      · have hl0 : l = 0 := by
          rcases Nat.eq_zero_or_pos l with h | h
          · exact h
          · exact absurd (Nat.mul_pos h hpos) h0
        subst hl0
        exact ⟨0, 0, fun h => absurd h (by omega), fun i u hu => by have := (List.getElem?_eq_some_iff.1 hu).1; rw [hxl] at this; omega⟩
    · obtain ⟨es, hes, hte⟩ := hi q (by omega)
      obtain ⟨_, hel, hea⟩ := World.cells?_some hes
      rw [hC] at hel hea
      have : (xs.drop (q * sz)).take sz = es := chunk hel (fun j hj => by
        have hlt : q * sz + j < l * sz := by
          have : (q + 1) * sz ≤ l * sz := Nat.mul_le_mul_right _ hq
          rw [Nat.add_mul] at this
          omega
        rw [hxs _ hlt, ← hea j hj, Go.Deep.add_add])
      rw [this]
      exact ⟨_, hte⟩
theorem field_intss {t e e2 : TypeId} {n : Nat} {u : Value} {y : DataW H × List MemPlace} (ht : P.underlying t = some (.slice e)) (hC : P.cellsOf e = 1) (he : P.underlying e = some (.slice e2)) (he2 : P.underlying e2 = some (.int .i64)) (hc2 : P.cellsOf e2 = 1)
    (h : DataW.trod enc P w base (fun _ => true) held n t [u] = some y) : ∃ a m c rs, u = .slice a m c ∧ IntSS w a m c rs ∧ ∀ r ∈ rs, Wf r.2.2 := by
  obtain ⟨a, m, c, xs, k, rfl, hr, hi⟩ := field_row ht hC (by decide) h
  have hxl := hr.1
  have each : ∀ q, q < m → ∃ r : RowD, xs[q]? = some (rowV r) ∧ Ints w r.1 r.2.2.length r.2.1 r.2.2 ∧ Wf r.2.2 := fun q hq => by
    obtain ⟨z, hz⟩ := hi q hq
    have hlt : q < xs.length := by omega
    rw [Nat.mul_one, List.drop_eq_getElem_cons hlt, List.take_succ_cons, List.take_zero] at hz
    obtain ⟨b, m2, d, l, hu, hI, hw⟩ := field_ints he he2 hc2 hz
    obtain rfl := hI.len
    exact ⟨(b, d, l), by rw [List.getElem?_eq_getElem hlt, hu]; rfl, hI, hw⟩
  obtain ⟨R, hR⟩ := choose_lt (α := RowD) (p := fun q r => xs[q]? = some (rowV r) ∧ Ints w r.1 r.2.2.length r.2.1 r.2.2 ∧ Wf r.2.2) each
  refine ⟨a, m, c, (List.range m).map R, rfl, ⟨?_, fun r hr' => ?_⟩, fun r hr' => ?_⟩
  · have : ((List.range m).map R).map rowV = xs := by
      apply List.ext_getElem?
      intro q
      by_cases hq : q < m
      · rw [(hR q hq).1]; simp [hq]
      · rw [List.getElem?_eq_none (by simp; omega), List.getElem?_eq_none (by omega)]
    rw [this]
    exact hr
  · obtain ⟨q, hq, rfl⟩ := List.mem_map.1 hr'
    exact (hR q (List.mem_range.1 hq)).2.1
  · obtain ⟨q, hq, rfl⟩ := List.mem_map.1 hr'
    exact (hR q (List.mem_range.1 hq)).2.2
end
end Go.Proofs.YtlmdckcohoddnaaDoor
