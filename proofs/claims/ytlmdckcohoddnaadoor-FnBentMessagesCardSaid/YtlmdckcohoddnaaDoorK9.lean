/- Lemmas and walks that the claim's proof rests on, part 9. -/
import Derived.Test.YtlmdckcohoddnaaDoorK5
import Derived.Test.YtlmdckcohoddnaaDoorK6
import Derived.Test.YtlmdckcohoddnaaDoorK7
import Derived.Test.YtlmdckcohoddnaaDoorK8
namespace Go.Proofs.YtlmdckcohoddnaaDoor
open Go.RowKit
set_option maxHeartbeats 16000000 in
set_option maxRecDepth 100000 in
theorem take_no (a : Pl) (x : PlX) (fr st : Int) (b : Option Addr) (n c : Nat) (body : List Int) (w : World) (h : PlR w x a.shares a.keys a.heard) (hM : Ints w b n c body) (hT : Tbl w) (hN : PlN a) (hs : a.step ≤ 2) (hacc : accB a fr st body = false) :
    Calls Tryd.prog 92 #[.agg #[.int .i64 a.P, .int .i64 a.party, .int .i64 a.input, .int .i64 a.mask, .int .i64 a.delta, .slice x.sa x.sn x.sc, .slice x.ka x.kn x.kc, .int .i64 a.step, .slice x.ha x.hn x.hc, .int .i64 a.status, .int .i64 a.out], .agg #[.int .i64 fr, .int .i64 st, .slice b n c]] w fun e w' => ∃ y F, e = .returned (.agg #[.int .i64 a.P, .int .i64 a.party, .int .i64 a.input, .int .i64 a.mask, .int .i64 a.delta, .slice y.sa y.sn y.sc, .slice y.ka y.kn y.kc, .int .i64 a.step, .slice y.ha y.hn y.hc, .int .i64 2, .int .i64 a.out]) ∧ PlO w' w.heap.size y a.shares a.keys (a.heard) F ∧ Below w.heap.size w w' := by
  have CA := Lib.hid (fun (W : World) (h2 : PlR W x a.shares a.keys a.heard) (h3 : Ints W b n c body) (h4 : Tbl W) => accepts_any a x fr st b n c body W h2 h3 h4 hN hs)
  rw [hacc] at CA
  have CP := Lib.hid (fun (W : World) (h2 : PlR W x a.shares a.keys a.heard) => copyPlayer_any a x W h2 hN)
  have LH := Lib.hid h
  have LM := Lib.hid hM
  have LX := Lib.hid hT
  clear h hM hT hs hN hacc
  go_enter Tryd.func92, Tryd.ntmps92
  go_wp2_with fail
  refine Exists.elim (Blk.new_ w (b := w.heap.size) rfl 31 #[.int .i64 a.P, .int .i64 a.party, .int .i64 a.input, .int .i64 a.mask, .int .i64 a.delta, .slice x.sa x.sn x.sc, .slice x.ka x.kn x.kc, .int .i64 a.step, .slice x.ha x.hn x.hc, .int .i64 a.status, .int .i64 a.out]) (fun w1_a0' q => ?_)
  rw [q.1]; have B_a := q.2.1; have s_w1_a0' := q.2.2.1; have u_w1_a0' := q.2.2.2; clear q
  refine Exists.elim (Blk.new_ w1_a0' (b := w.heap.size + 1) s_w1_a0' 44 #[.int .i64 fr, .int .i64 st, .slice b n c]) (fun w1_a1' q => ?_)
  rw [q.1]; have B_m := q.2.1; have s_w1_a1' := q.2.2.1; have u_w1_a1' := q.2.2.2; clear q
  refine Exists.elim (Blk.new_ w1_a1' (b := w.heap.size + 2) s_w1_a1' 31 #[.int .i64 0, .int .i64 0, .int .i64 0, .int .i64 0, .int .i64 0, .slice none 0 0, .slice none 0 0, .int .i64 0, .slice none 0 0, .int .i64 0, .int .i64 0]) (fun w1' q => ?_)
  rw [q.1]; have B_r := q.2.1; have s_w1' := q.2.2.1; have u_w1' := q.2.2.2; clear q
  replace B_a := ((B_a.below u_w1_a1').below u_w1')
  replace B_m := (B_m.below u_w1')
  have U := (u_w1_a0'.trans ((u_w1_a1'.trans (u_w1'.mono u_w1_a1'.size)).mono u_w1_a0'.size))
  have S_w1' : w.heap.size + 3 ≤ w1'.heap.size := Nat.le_of_eq s_w1'.symm
  have V_w1' := (Below.refl w.heap.size w).trans (U.mono ((Below.refl w.heap.size w)).size)
  clear u_w1_a0' u_w1_a1' u_w1' s_w1_a0' s_w1_a1' s_w1' U
  refine (CP.out _ (LH.out.below V_w1')).mono ?_
  rintro e w2' ⟨y, F, rfl, o, u_w2'⟩
  replace B_a := B_a.below u_w2'
  replace B_m := B_m.below u_w2'
  replace B_r := B_r.below u_w2'
  have S_w2' := u_w2'.size
  have V_w2' : Below w.heap.size w w2' := V_w1'.trans (u_w2'.mono V_w1'.size)
  clear V_w1'
  clear u_w2'
  replace o := o.lower (b' := w.heap.size + 3) S_w1'
  have Q_o := Lib.hid o.feet
  go_upto_region 2 with fail
  refine Exists.elim (Blk.new_ w2' (b := w2'.heap.size) rfl 31 #[.int .i64 a.P, .int .i64 a.party, .int .i64 a.input, .int .i64 a.mask, .int .i64 a.delta, .slice y.sa y.sn y.sc, .slice y.ka y.kn y.kc, .int .i64 a.step, .slice y.ha y.hn y.hc, .int .i64 a.status, .int .i64 a.out]) (fun w3' q => ?_)
  rw [q.1]; have B_b := q.2.1; have s_w3' := q.2.2.1; have u_w3' := q.2.2.2; clear q
  replace B_a := B_a.below u_w3'
  replace B_m := B_m.below u_w3'
  replace B_r := B_r.below u_w3'
  replace o := o.below u_w3'
  have S_w3' : w2'.heap.size + 1 ≤ w3'.heap.size := Nat.le_of_eq s_w3'.symm
  have V_w3' := V_w2'.trans (u_w3'.mono (V_w2').size)
  clear u_w3' s_w3' V_w2'
  have e_a := B_a.all11
  have e_m := B_m.all3
  go_wp2_with fail
  clear e_a e_m
  refine (CA.out _ (LH.out.below V_w3') (LM.out.below V_w3') (LX.out.below V_w3')).mono ?_
  rintro e w4' ⟨rfl, u_w4'⟩
  replace B_a := B_a.below u_w4'
  replace B_m := B_m.below u_w4'
  replace B_r := B_r.below u_w4'
  replace B_b := B_b.below u_w4'
  replace o := o.below u_w4'
  have S_w4' := u_w4'.size
  have V_w4' : Below w.heap.size w w4' := V_w3'.trans (u_w4'.mono V_w3'.size)
  clear V_w3'
  clear u_w4'
  have e_b := B_b.all11
  have f_b := B_b.frz11
  have e_r := B_r.all11
  have f_r := B_r.frz11
  go_wp2
  clear e_b f_b e_r f_r
  have g_1 : Only [w2'.heap.size] w4' (w4'.setCell ⟨w2'.heap.size, 9, none⟩ (.int .i64 2)) := (Only.refl _ _).setCell _ _ (by simp)
  replace B_b := B_b.set_ 9 (.int .i64 2)
  generalize w4'.setCell ⟨w2'.heap.size, 9, none⟩ (.int .i64 2) = w5_1' at *
  have G := g_1
  clear g_1
  simp only [List.setIfInBounds_toArray, List.set_cons_zero, List.set_cons_succ] at B_b
  have V_w5'_0 := (V_w4').trans (G.below (V_w4').size (fun q hq => by have := (V_w4').size; simp at hq; omega))
  replace B_a := B_a.only G (by first | (simp; done) | (simp; omega))
  replace B_m := B_m.only G (by first | (simp; done) | (simp; omega))
  replace B_r := B_r.only G (by first | (simp; done) | (simp; omega))
  replace o := o.only G (fun q hq hq' => by have := Q_o.out q hq; simp at hq'; omega)
  have sG0 := G.size
  clear G
  clear V_w4'
  refine Exists.elim (B_r.row11 (.int .i64 a.P) (.int .i64 a.party) (.int .i64 a.input) (.int .i64 a.mask) (.int .i64 a.delta) (.slice y.sa y.sn y.sc) (.slice y.ka y.kn y.kc) (.int .i64 a.step) (.slice y.ha y.hn y.hc) (.int .i64 2) (.int .i64 a.out)) (fun w5' q => ?_)
  rw [q.1]; replace B_r := q.2.1; have G := q.2.2; clear q
  have V_w5' := (V_w5'_0).trans (G.below (V_w5'_0).size (fun q hq => by have := (V_w5'_0).size; simp at hq; omega))
  replace B_a := B_a.only G (by first | (simp; done) | (simp; omega))
  replace B_m := B_m.only G (by first | (simp; done) | (simp; omega))
  replace B_b := B_b.only G (by first | (simp; done) | (simp; omega))
  replace o := o.only G (fun q hq hq' => by have := Q_o.out q hq; simp at hq'; omega)
  have sG1 := G.size
  clear G
  clear V_w5'_0
  have S_w5' : w4'.heap.size + 0 ≤ w5'.heap.size := by omega
  clear sG0 sG1
  have e_r := B_r.all11
  exact bodyPost_ret (v := .agg #[.int .i64 a.P, .int .i64 a.party, .int .i64 a.input, .int .i64 a.mask, .int .i64 a.delta, .slice y.sa y.sn y.sc, .slice y.ka y.kn y.kc, .int .i64 a.step, .slice y.ha y.hn y.hc, .int .i64 2, .int .i64 a.out]) (by simp [results, Tryd.results92, go_sem, e_r]) rfl ⟨y, F, rfl, o.lower (by omega), V_w5'⟩
theorem acc_parts {a : Pl} {fr st : Int} {b : List Int} (h : accB a fr st b = true) : b.length = blen a.step.toNat ∧ ∀ v ∈ b, 0 ≤ v ∧ v ≤ a.P - 1 := by
  unfold accB bodyB at h
  simp only [Bool.and_eq_true, decide_eq_true_eq] at h
  exact ⟨h.2.2.1.1, (allB_iff _ _ _).1 h.2.2.1.2⟩
end Go.Proofs.YtlmdckcohoddnaaDoor
namespace Go.Proofs.YtlmdckcohoddnaaDoor
open Go.RowKit
set_option maxHeartbeats 16000000 in
set_option maxRecDepth 100000 in
theorem take_go (a : Pl) (x : PlX) (fr st : Int) (b : Option Addr) (n c : Nat) (body : List Int) (w : World) (h : PlR w x a.shares a.keys a.heard) (hM : Ints w b n c body) (hT : Tbl w) (hN : PlN a) (hs : a.step ≤ 2) (hacc : accB a fr st body = true) (h2 : a.step < 2) :
    Calls Tryd.prog 92 #[.agg #[.int .i64 a.P, .int .i64 a.party, .int .i64 a.input, .int .i64 a.mask, .int .i64 a.delta, .slice x.sa x.sn x.sc, .slice x.ka x.kn x.kc, .int .i64 a.step, .slice x.ha x.hn x.hc, .int .i64 a.status, .int .i64 a.out], .agg #[.int .i64 fr, .int .i64 st, .slice b n c]] w fun e w' => ∃ y F, e = .returned (.agg #[.int .i64 a.P, .int .i64 a.party, .int .i64 a.input, .int .i64 a.mask, .int .i64 a.delta, .slice y.sa y.sn y.sc, .slice y.ka y.kn y.kc, .int .i64 (a.step + 1), .slice y.ha y.hn y.hc, .int .i64 a.status, .int .i64 a.out]) ∧ PlO w' w.heap.size y a.shares a.keys (a.heard ++ [body]) F ∧ Below w.heap.size w w' := by
  have hnb := hM.len
  subst hnb
  obtain ⟨hbl, hbr⟩ := acc_parts hacc
  have CA := Lib.hid (fun (W : World) (h2 : PlR W x a.shares a.keys a.heard) (h3 : Ints W b body.length c body) (h4 : Tbl W) => accepts_any a x fr st b body.length c body W h2 h3 h4 hN hs)
  rw [hacc] at CA
  have CP := Lib.hid (fun (W : World) (h2 : PlR W x a.shares a.keys a.heard) => copyPlayer_any a x W h2 hN)
  have LH := Lib.hid h
  have LM := Lib.hid hM
  have LX := Lib.hid hT
  have hst := hN.stp
  have hn4 : body.length ≤ 10000000 := by rw [hbl]; have := (blen_bd a.step.toNat).2; omega
  have t1 : IntKind.i64.wrap (a.step + 1) = a.step + 1 := IntWalk.i64_in _ (by omega)
  have hhl := hN.hl
  have d1 : ((a.step == 2) : Bool) = false := by simp; omega
  clear h hM hT hs hN hacc hbl hbr
  go_enter Tryd.func92, Tryd.ntmps92
  go_wp2_with fail
  refine Exists.elim (Blk.new_ w (b := w.heap.size) rfl 31 #[.int .i64 a.P, .int .i64 a.party, .int .i64 a.input, .int .i64 a.mask, .int .i64 a.delta, .slice x.sa x.sn x.sc, .slice x.ka x.kn x.kc, .int .i64 a.step, .slice x.ha x.hn x.hc, .int .i64 a.status, .int .i64 a.out]) (fun w1_a0' q => ?_)
  rw [q.1]; have B_a := q.2.1; have s_w1_a0' := q.2.2.1; have u_w1_a0' := q.2.2.2; clear q
  refine Exists.elim (Blk.new_ w1_a0' (b := w.heap.size + 1) s_w1_a0' 44 #[.int .i64 fr, .int .i64 st, .slice b body.length c]) (fun w1_a1' q => ?_)
  rw [q.1]; have B_m := q.2.1; have s_w1_a1' := q.2.2.1; have u_w1_a1' := q.2.2.2; clear q
  refine Exists.elim (Blk.new_ w1_a1' (b := w.heap.size + 2) s_w1_a1' 31 #[.int .i64 0, .int .i64 0, .int .i64 0, .int .i64 0, .int .i64 0, .slice none 0 0, .slice none 0 0, .int .i64 0, .slice none 0 0, .int .i64 0, .int .i64 0]) (fun w1' q => ?_)
  rw [q.1]; have B_r := q.2.1; have s_w1' := q.2.2.1; have u_w1' := q.2.2.2; clear q
  replace B_a := ((B_a.below u_w1_a1').below u_w1')
  replace B_m := (B_m.below u_w1')
  have U := (u_w1_a0'.trans ((u_w1_a1'.trans (u_w1'.mono u_w1_a1'.size)).mono u_w1_a0'.size))
  have S_w1' : w.heap.size + 3 ≤ w1'.heap.size := Nat.le_of_eq s_w1'.symm
  have V_w1' := (Below.refl w.heap.size w).trans (U.mono ((Below.refl w.heap.size w)).size)
  clear u_w1_a0' u_w1_a1' u_w1' s_w1_a0' s_w1_a1' s_w1' U
  refine (CP.out _ (LH.out.below V_w1')).mono ?_
  rintro e w2' ⟨y, F, rfl, o, u_w2'⟩
  replace B_a := B_a.below u_w2'
  replace B_m := B_m.below u_w2'
  replace B_r := B_r.below u_w2'
  have S_w2' := u_w2'.size
  have V_w2' : Below w.heap.size w w2' := V_w1'.trans (u_w2'.mono V_w1'.size)
  clear V_w1'
  clear u_w2'
  replace o := o.lower (b' := w.heap.size + 3) S_w1'
  have Q_o := Lib.hid o.feet
  go_upto_region 2 with fail
  refine Exists.elim (Blk.new_ w2' (b := w2'.heap.size) rfl 31 #[.int .i64 a.P, .int .i64 a.party, .int .i64 a.input, .int .i64 a.mask, .int .i64 a.delta, .slice y.sa y.sn y.sc, .slice y.ka y.kn y.kc, .int .i64 a.step, .slice y.ha y.hn y.hc, .int .i64 a.status, .int .i64 a.out]) (fun w3' q => ?_)
  rw [q.1]; have B_b := q.2.1; have s_w3' := q.2.2.1; have u_w3' := q.2.2.2; clear q
  replace B_a := B_a.below u_w3'
  replace B_m := B_m.below u_w3'
  replace B_r := B_r.below u_w3'
  replace o := o.below u_w3'
  have S_w3' : w2'.heap.size + 1 ≤ w3'.heap.size := Nat.le_of_eq s_w3'.symm
  have V_w3' := V_w2'.trans (u_w3'.mono (V_w2').size)
  clear u_w3' s_w3' V_w2'
  have e_a := B_a.all11
  have e_m := B_m.all3
  go_wp2_with fail
  clear e_a e_m
  refine (CA.out _ (LH.out.below V_w3') (LM.out.below V_w3') (LX.out.below V_w3')).mono ?_
  rintro e w4' ⟨rfl, u_w4'⟩
  replace B_a := B_a.below u_w4'
  replace B_m := B_m.below u_w4'
  replace B_r := B_r.below u_w4'
  replace B_b := B_b.below u_w4'
  replace o := o.below u_w4'
  have S_w4' := u_w4'.size
  have V_w4' : Below w.heap.size w w4' := V_w3'.trans (u_w4'.mono V_w3'.size)
  clear V_w3'
  clear u_w4'
  obtain ⟨o5, o6, rs, o8, hd, D56, D58, D68, rfl⟩ := o
  have Q_o5 := Lib.hid (fun q (hq : q ∈ foot y.sa y.sc) => Q_o.out q (List.mem_append_left _ hq))
  have Q_o6 := Lib.hid (fun q (hq : q ∈ foot y.ka y.kc) => Q_o.out q (List.mem_append_right _ (List.mem_append_left _ hq)))
  have Q_o8 := Lib.hid (fun q (hq : q ∈ feetSS y.ha y.hc rs) => Q_o.out q (List.mem_append_right _ (List.mem_append_right _ hq)))
  have hrl := o8.reads.len
  have hrn : y.hn ≤ 2 := by have : rs.length = a.heard.length := by rw [← hd, datas_len]
                            omega
  replace hd := Lib.hid hd
  have NN : ∀ q, q ∈ foot y.ha y.hc → w.heap.size + 3 ≤ q ∧ q < w2'.heap.size := fun q hq => (Q_o8.out q (List.mem_append_left _ hq))
  have SL : w.heap.size + 3 ≤ w4'.drew.heap.size := (show w.heap.size + 3 ≤ w4'.heap.size by omega)
  have hM7 := (LM.out.below V_w4').below (Below.refl _ _).drew
  have e_a_7 := B_a.a11_7
  have e_m_2 := B_m.a3_2
  have e_b_8 := B_b.a11_8
  have f_b_8 := B_b.frozen 8
  have e_b_7 := B_b.a11_7
  have f_b_7 := B_b.frozen 7
  go_wp2
  refine wp_region_noPanic ?_
  refine wp_region_held_drew (S := (fun W => Blk W (w.heap.size) 31 #[.int .i64 a.P, .int .i64 a.party, .int .i64 a.input, .int .i64 a.mask, .int .i64 a.delta, .slice x.sa x.sn x.sc, .slice x.ka x.kn x.kc, .int .i64 a.step, .slice x.ha x.hn x.hc, .int .i64 a.status, .int .i64 a.out] ∧ Blk W (w.heap.size + 1) 44 #[.int .i64 fr, .int .i64 st, .slice b body.length c])) (by kernel_rfl) ?hS1 (fun hHeld => ?go1)
  case hS1 => exact ⟨B_a.drew, B_m.drew⟩
  refine tk (i := 0) (oi := ⟨some 31, _, _, _, _, _⟩) (v := ?v0_2) hHeld rfl ?y0_2 ?r0_2
  case y0_2 => (intro w _; first | (go_simp; first | done | with_reducible rfl) | with_reducible rfl)
  (try simp only [pt_])
  refine tk (i := 2) (oi := ⟨some 33, _, _, _, _, _⟩) (v := ?v2_3) hHeld rfl ?y2_3 ?r2_3
  case y2_3 => (intro w _; first | (go_simp; first | done | with_reducible rfl) | with_reducible rfl)
  (try simp only [pt_])
  refine tk (i := 3) (oi := ⟨some 34, _, _, _, _, _⟩) (v := ?v3_4) hHeld rfl ?y3_4 ?r3_4
  case y3_4 => (intro w hSw; obtain ⟨qS0, qS1⟩ := hSw; have cS0 := qS0.all11; have cS1 := qS1.all3; first | (go_simp; first | done | with_reducible rfl) | with_reducible rfl)
  (try simp only [pt_])
  refine tk (i := 7) (oi := ⟨some 38, _, _, _, _, _⟩) (v := ?v7_5) hHeld rfl ?y7_5 ?r7_5
  case y7_5 => (intro w _; first | (go_simp; first | done | with_reducible rfl) | with_reducible rfl)
  (try simp only [pt_])
  refine tk (i := 8) (oi := ⟨some 39, _, _, _, _, _⟩) (v := ?v8_6) hHeld rfl ?y8_6 ?r8_6
  case y8_6 => (intro w hSw; obtain ⟨qS0, qS1⟩ := hSw; have cS0 := qS0.all11; have cS1 := qS1.all3; first | (go_simp; first | done | with_reducible rfl) | with_reducible rfl)
  (try simp only [pt_])
  refine tk (i := 9) (oi := ⟨some 40, _, _, _, _, _⟩) (v := ?v9_7) hHeld rfl ?y9_7 ?r9_7
  case y9_7 => (intro w _; first | (go_simp; first | done | with_reducible rfl) | with_reducible rfl)
  (try simp only [pt_])
  refine wpAnyH_ready (rs := [1, 4]) (by kernel_rfl) (by simp) ?_
  refine AllReadyH.cons (o := ⟨some 32, _, _, _, _, _⟩) rfl (fun K hK => ?_) ?_
  go_simp
  refine hK.out _ _ ?_ (fun hHeld => ?_)
  · (first | exact ⟨A8, M8⟩ | exact ⟨A7, M7⟩ | exact ⟨A9A, M9A⟩ | exact ⟨A9, M9⟩ | exact ⟨B_a.drew, B_m.drew⟩)
  clear hK K
  (try simp only [pt_])
  refine wpAnyH_ready (rs := [4]) (by kernel_rfl) (by simp) ?_
  refine AllReadyH.cons (o := ⟨some 35, _, _, _, _, _⟩) rfl (fun K hK => ?_) ?_
  go_simp
  refine (Clone_any _ _ _ body _ hM7 hn4).mono ?_
  rintro e wz ⟨b9, d9, rfl, o9, u9⟩
  have A9 := Blk.below B_a.drew u9
  have A9A := Blk.alloc A9 (.cells #[.slice b9 body.length d9] 23)
  have M9 := Blk.below B_m.drew u9
  have M9A := Blk.alloc M9 (.cells #[.slice b9 body.length d9] 23)
  have B9 := Blk.below B_b.drew u9
  have B9A := Blk.alloc B9 (.cells #[.slice b9 body.length d9] 23)
  have g9b := B9.cell 8
  have g9B := B9A.cell 8
  focus (try go_wp2_with fail)
  refine hK.out _ _ ?_ (fun hHeld => ?_)
  · (first | exact ⟨A8, M8⟩ | exact ⟨A7, M7⟩ | exact ⟨A9A, M9A⟩ | exact ⟨A9, M9⟩ | exact ⟨B_a.drew, B_m.drew⟩)
  clear hK K
  (try simp only [pt_])
  refine wpAnyH_ready (rs := [5]) (by kernel_rfl) (by simp) ?_
  refine AllReadyH.cons (o := ⟨some 36, _, _, _, _, _⟩) rfl (fun K hK => ?_) ?_
  go_simp
  refine hK.out _ _ ?_ (fun hHeld => ?_)
  · (first | exact ⟨A8, M8⟩ | exact ⟨A7, M7⟩ | exact ⟨A9A, M9A⟩ | exact ⟨A9, M9⟩ | exact ⟨B_a.drew, B_m.drew⟩)
  clear hK K
  (try simp only [pt_])
  refine wpAnyH_ready (rs := [6]) (by kernel_rfl) (by simp) ?_
  refine AllReadyH.cons (o := ⟨some 37, _, _, _, _, _⟩) rfl (fun K hK => ?_) ?_
  have hdj : Disj (foot b9 d9) (feetSS y.ha y.hc rs) := Disj.of_rng o9.feet o8.feet (Or.inr (Nat.le_refl _))
  have own2 := o8.below ((Below.refl _ _).drew.trans u9)
  have o10 := o9.lower (b' := w.heap.size + 3) SL
  have LIT := RowC.lit1 wz (rowV (b9, d9, body)) 23
  have own3 := OwnSS.alloc own2 (.cells #[rowV (b9, d9, body)] 23)
  have o11 := Own.alloc o10 (.cells #[rowV (b9, d9, body)] 23)
  have OO : OwnC (wz.alloc (.cells #[rowV (b9, d9, body)] 23)) (w.heap.size + 3) y.ha y.hn y.hc 23 1 (rs.map rowV) := own3.out
  have szz : w.heap.size + 3 ≤ (wz.alloc (.cells #[rowV (b9, d9, body)] 23)).heap.size := by have := u9.size; simp at *; omega
  refine step_appSS (by rfl) _ _ (by rfl) (w.heap.size + 3) y.ha y.hn y.hc (rs.map rowV) (by rfl) OO _ 1 1 [rowV (b9, d9, body)] (by rfl) LIT (by simp [rowV, Value.oneCell']) (by omega) szz ?_
  intro a7 c7 w7 oc u7 g7 m7
  have A7 := Blk.only A9A (Only.of_grown g7) (fun hq => by have := NN _ hq; omega)
  have M7 := Blk.only M9A (Only.of_grown g7) (fun hq => by have := NN _ hq; omega)
  have B7 := Blk.only B9A (Only.of_grown g7) (fun hq => by have := NN _ hq; omega)
  have j8 := B7.cell 8
  have j7 := B7.cell 7
  have f8 := B7.frozen 8
  have f7 := B7.frozen 7
  refine hK.out _ _ ?_ (fun hHeld => ?_)
  · (first | exact ⟨A8, M8⟩ | exact ⟨A7, M7⟩ | exact ⟨A9A, M9A⟩ | exact ⟨A9, M9⟩ | exact ⟨B_a.drew, B_m.drew⟩)
  clear hK K
  (try simp only [pt_])
  refine tk (i := 10) (oi := ⟨some 41, _, _, _, _, _⟩) (v := ?v10_8) hHeld rfl ?y10_8 ?r10_8
  case y10_8 => (intro w _; first | (go_simp; first | done | with_reducible rfl) | with_reducible rfl)
  (try simp only [pt_])
  refine wpAnyH_ready (rs := [11]) (by kernel_rfl) (by simp) ?_
  refine AllReadyH.cons (o := ⟨none, _, _, _, _, _⟩) rfl (fun K hK => ?_) ?_
  have G8 : Only [w2'.heap.size] w7 (w7.setCell ⟨w2'.heap.size, 8, none⟩ (.slice a7 (y.hn + 1) c7)) := (Only.refl _ _).setCell ⟨w2'.heap.size, 8, none⟩ _ (by simp)
  have A8 := Blk.only A7 G8 (by simp; omega)
  have M8 := Blk.only M7 G8 (by simp; omega)
  have B8 := B7.set_ 8 (.slice a7 (y.hn + 1) c7)
  have k7 := B8.frozen 7
  go_simp
  refine hK.out _ _ ?_ (fun hHeld => ?_)
  · (first | exact ⟨A8, M8⟩ | exact ⟨A7, M7⟩ | exact ⟨A9A, M9A⟩ | exact ⟨A9, M9⟩ | exact ⟨B_a.drew, B_m.drew⟩)
  clear hK K
  (try simp only [pt_])
  refine tk (i := 12) (oi := ⟨some 42, _, _, _, _, _⟩) (v := ?v12_9) hHeld rfl ?y12_9 ?r12_9
  case y12_9 => (intro w _; first | (go_simp; first | done | with_reducible rfl) | with_reducible rfl)
  (try simp only [pt_])
  refine wpAnyH_ready (rs := [13]) (by kernel_rfl) (by simp) ?_
  refine AllReadyH.cons (o := ⟨none, _, _, _, _, _⟩) rfl (fun K hK => ?_) ?_
  go_simp
  refine hK.out _ _ ?_ (fun hHeld => ?_)
  · (exact ⟨Blk.only A8 ((Only.refl [w2'.heap.size] _).setCell ⟨w2'.heap.size, 7, none⟩ _ (by simp)) (by simp; omega), Blk.only M8 ((Only.refl [w2'.heap.size] _).setCell ⟨w2'.heap.size, 7, none⟩ _ (by simp)) (by simp; omega)⟩)
  clear hK K
  (try simp only [pt_])
  refine wpAnyH_done (by kernel_rfl) ?_ _
  refine NoPanic.normal ?_
  rotate_left 1
  exact AllReadyH.nil
  exact AllReadyH.nil
  exact AllReadyH.nil
  exact AllReadyH.nil
  exact AllReadyH.nil
  refine AllReadyH.cons (o := ⟨some 35, _, _, _, _, _⟩) rfl (fun K hK => ?_) ?_
  go_simp
  refine (Clone_any _ _ _ body _ hM7 hn4).mono ?_
  rintro e wz ⟨b9, d9, rfl, o9, u9⟩
  have A9 := Blk.below B_a.drew u9
  have A9A := Blk.alloc A9 (.cells #[.slice b9 body.length d9] 23)
  have M9 := Blk.below B_m.drew u9
  have M9A := Blk.alloc M9 (.cells #[.slice b9 body.length d9] 23)
  have B9 := Blk.below B_b.drew u9
  have B9A := Blk.alloc B9 (.cells #[.slice b9 body.length d9] 23)
  have g9b := B9.cell 8
  have g9B := B9A.cell 8
  focus (try go_wp2_with fail)
  refine hK.out _ _ ?_ (fun hHeld => ?_)
  · (first | exact ⟨A8, M8⟩ | exact ⟨A7, M7⟩ | exact ⟨A9A, M9A⟩ | exact ⟨A9, M9⟩ | exact ⟨B_a.drew, B_m.drew⟩)
  clear hK K
  (try simp only [pt_])
  refine wpAnyH_ready (rs := [1, 5]) (by kernel_rfl) (by simp) ?_
  refine AllReadyH.cons (o := ⟨some 32, _, _, _, _, _⟩) rfl (fun K hK => ?_) ?_
  go_simp
  refine hK.out _ _ ?_ (fun hHeld => ?_)
  · (first | exact ⟨A8, M8⟩ | exact ⟨A7, M7⟩ | exact ⟨A9A, M9A⟩ | exact ⟨A9, M9⟩ | exact ⟨B_a.drew, B_m.drew⟩)
  clear hK K
  (try simp only [pt_])
  refine wpAnyH_ready (rs := [5]) (by kernel_rfl) (by simp) ?_
  refine AllReadyH.cons (o := ⟨some 36, _, _, _, _, _⟩) rfl (fun K hK => ?_) ?_
  go_simp
  refine hK.out _ _ ?_ (fun hHeld => ?_)
  · (first | exact ⟨A8, M8⟩ | exact ⟨A7, M7⟩ | exact ⟨A9A, M9A⟩ | exact ⟨A9, M9⟩ | exact ⟨B_a.drew, B_m.drew⟩)
  clear hK K
  (try simp only [pt_])
  refine wpAnyH_ready (rs := [6]) (by kernel_rfl) (by simp) ?_
  refine AllReadyH.cons (o := ⟨some 37, _, _, _, _, _⟩) rfl (fun K hK => ?_) ?_
  have hdj : Disj (foot b9 d9) (feetSS y.ha y.hc rs) := Disj.of_rng o9.feet o8.feet (Or.inr (Nat.le_refl _))
  have own2 := o8.below ((Below.refl _ _).drew.trans u9)
  have o10 := o9.lower (b' := w.heap.size + 3) SL
  have LIT := RowC.lit1 wz (rowV (b9, d9, body)) 23
  have own3 := OwnSS.alloc own2 (.cells #[rowV (b9, d9, body)] 23)
  have o11 := Own.alloc o10 (.cells #[rowV (b9, d9, body)] 23)
  have OO : OwnC (wz.alloc (.cells #[rowV (b9, d9, body)] 23)) (w.heap.size + 3) y.ha y.hn y.hc 23 1 (rs.map rowV) := own3.out
  have szz : w.heap.size + 3 ≤ (wz.alloc (.cells #[rowV (b9, d9, body)] 23)).heap.size := by have := u9.size; simp at *; omega
  refine step_appSS (by rfl) _ _ (by rfl) (w.heap.size + 3) y.ha y.hn y.hc (rs.map rowV) (by rfl) OO _ 1 1 [rowV (b9, d9, body)] (by rfl) LIT (by simp [rowV, Value.oneCell']) (by omega) szz ?_
  intro a7 c7 w7 oc u7 g7 m7
  have A7 := Blk.only A9A (Only.of_grown g7) (fun hq => by have := NN _ hq; omega)
  have M7 := Blk.only M9A (Only.of_grown g7) (fun hq => by have := NN _ hq; omega)
  have B7 := Blk.only B9A (Only.of_grown g7) (fun hq => by have := NN _ hq; omega)
  have j8 := B7.cell 8
  have j7 := B7.cell 7
  have f8 := B7.frozen 8
  have f7 := B7.frozen 7
  refine hK.out _ _ ?_ (fun hHeld => ?_)
  · (first | exact ⟨A8, M8⟩ | exact ⟨A7, M7⟩ | exact ⟨A9A, M9A⟩ | exact ⟨A9, M9⟩ | exact ⟨B_a.drew, B_m.drew⟩)
  clear hK K
  (try simp only [pt_])
  refine tk (i := 10) (oi := ⟨some 41, _, _, _, _, _⟩) (v := ?v10_10) hHeld rfl ?y10_10 ?r10_10
  case y10_10 => (intro w _; first | (go_simp; first | done | with_reducible rfl) | with_reducible rfl)
  (try simp only [pt_])
  refine wpAnyH_ready (rs := [11]) (by kernel_rfl) (by simp) ?_
  refine AllReadyH.cons (o := ⟨none, _, _, _, _, _⟩) rfl (fun K hK => ?_) ?_
  have G8 : Only [w2'.heap.size] w7 (w7.setCell ⟨w2'.heap.size, 8, none⟩ (.slice a7 (y.hn + 1) c7)) := (Only.refl _ _).setCell ⟨w2'.heap.size, 8, none⟩ _ (by simp)
  have A8 := Blk.only A7 G8 (by simp; omega)
  have M8 := Blk.only M7 G8 (by simp; omega)
  have B8 := B7.set_ 8 (.slice a7 (y.hn + 1) c7)
  have k7 := B8.frozen 7
  go_simp
  refine hK.out _ _ ?_ (fun hHeld => ?_)
  · (first | exact ⟨A8, M8⟩ | exact ⟨A7, M7⟩ | exact ⟨A9A, M9A⟩ | exact ⟨A9, M9⟩ | exact ⟨B_a.drew, B_m.drew⟩)
  clear hK K
  (try simp only [pt_])
  refine tk (i := 12) (oi := ⟨some 42, _, _, _, _, _⟩) (v := ?v12_11) hHeld rfl ?y12_11 ?r12_11
  case y12_11 => (intro w _; first | (go_simp; first | done | with_reducible rfl) | with_reducible rfl)
  (try simp only [pt_])
  refine wpAnyH_ready (rs := [13]) (by kernel_rfl) (by simp) ?_
  refine AllReadyH.cons (o := ⟨none, _, _, _, _, _⟩) rfl (fun K hK => ?_) ?_
  go_simp
  refine hK.out _ _ ?_ (fun hHeld => ?_)
  · (exact ⟨Blk.only A8 ((Only.refl [w2'.heap.size] _).setCell ⟨w2'.heap.size, 7, none⟩ _ (by simp)) (by simp; omega), Blk.only M8 ((Only.refl [w2'.heap.size] _).setCell ⟨w2'.heap.size, 7, none⟩ _ (by simp)) (by simp; omega)⟩)
  clear hK K
  (try simp only [pt_])
  refine wpAnyH_done (by kernel_rfl) ?_ _
  refine NoPanic.normal ?_
  rotate_left 1
  exact AllReadyH.nil
  exact AllReadyH.nil
  exact AllReadyH.nil
  exact AllReadyH.nil
  refine AllReadyH.cons (o := ⟨some 36, _, _, _, _, _⟩) rfl (fun K hK => ?_) ?_
  go_simp
  refine hK.out _ _ ?_ (fun hHeld => ?_)
  · (first | exact ⟨A8, M8⟩ | exact ⟨A7, M7⟩ | exact ⟨A9A, M9A⟩ | exact ⟨A9, M9⟩ | exact ⟨B_a.drew, B_m.drew⟩)
  clear hK K
  (try simp only [pt_])
  refine wpAnyH_ready (rs := [1]) (by kernel_rfl) (by simp) ?_
  refine AllReadyH.cons (o := ⟨some 32, _, _, _, _, _⟩) rfl (fun K hK => ?_) ?_
  go_simp
  refine hK.out _ _ ?_ (fun hHeld => ?_)
  · (first | exact ⟨A8, M8⟩ | exact ⟨A7, M7⟩ | exact ⟨A9A, M9A⟩ | exact ⟨A9, M9⟩ | exact ⟨B_a.drew, B_m.drew⟩)
  clear hK K
  (try simp only [pt_])
  refine wpAnyH_ready (rs := [6]) (by kernel_rfl) (by simp) ?_
  refine AllReadyH.cons (o := ⟨some 37, _, _, _, _, _⟩) rfl (fun K hK => ?_) ?_
  have hdj : Disj (foot b9 d9) (feetSS y.ha y.hc rs) := Disj.of_rng o9.feet o8.feet (Or.inr (Nat.le_refl _))
  have own2 := o8.below ((Below.refl _ _).drew.trans u9)
  have o10 := o9.lower (b' := w.heap.size + 3) SL
  have LIT := RowC.lit1 wz (rowV (b9, d9, body)) 23
  have own3 := OwnSS.alloc own2 (.cells #[rowV (b9, d9, body)] 23)
  have o11 := Own.alloc o10 (.cells #[rowV (b9, d9, body)] 23)
  have OO : OwnC (wz.alloc (.cells #[rowV (b9, d9, body)] 23)) (w.heap.size + 3) y.ha y.hn y.hc 23 1 (rs.map rowV) := own3.out
  have szz : w.heap.size + 3 ≤ (wz.alloc (.cells #[rowV (b9, d9, body)] 23)).heap.size := by have := u9.size; simp at *; omega
  refine step_appSS (by rfl) _ _ (by rfl) (w.heap.size + 3) y.ha y.hn y.hc (rs.map rowV) (by rfl) OO _ 1 1 [rowV (b9, d9, body)] (by rfl) LIT (by simp [rowV, Value.oneCell']) (by omega) szz ?_
  intro a7 c7 w7 oc u7 g7 m7
  have A7 := Blk.only A9A (Only.of_grown g7) (fun hq => by have := NN _ hq; omega)
  have M7 := Blk.only M9A (Only.of_grown g7) (fun hq => by have := NN _ hq; omega)
  have B7 := Blk.only B9A (Only.of_grown g7) (fun hq => by have := NN _ hq; omega)
  have j8 := B7.cell 8
  have j7 := B7.cell 7
  have f8 := B7.frozen 8
  have f7 := B7.frozen 7
  refine hK.out _ _ ?_ (fun hHeld => ?_)
  · (first | exact ⟨A8, M8⟩ | exact ⟨A7, M7⟩ | exact ⟨A9A, M9A⟩ | exact ⟨A9, M9⟩ | exact ⟨B_a.drew, B_m.drew⟩)
  clear hK K
  (try simp only [pt_])
  refine tk (i := 10) (oi := ⟨some 41, _, _, _, _, _⟩) (v := ?v10_12) hHeld rfl ?y10_12 ?r10_12
  case y10_12 => (intro w _; first | (go_simp; first | done | with_reducible rfl) | with_reducible rfl)
  (try simp only [pt_])
  refine wpAnyH_ready (rs := [11]) (by kernel_rfl) (by simp) ?_
  refine AllReadyH.cons (o := ⟨none, _, _, _, _, _⟩) rfl (fun K hK => ?_) ?_
  have G8 : Only [w2'.heap.size] w7 (w7.setCell ⟨w2'.heap.size, 8, none⟩ (.slice a7 (y.hn + 1) c7)) := (Only.refl _ _).setCell ⟨w2'.heap.size, 8, none⟩ _ (by simp)
  have A8 := Blk.only A7 G8 (by simp; omega)
  have M8 := Blk.only M7 G8 (by simp; omega)
  have B8 := B7.set_ 8 (.slice a7 (y.hn + 1) c7)
  have k7 := B8.frozen 7
  go_simp
  refine hK.out _ _ ?_ (fun hHeld => ?_)
  · (first | exact ⟨A8, M8⟩ | exact ⟨A7, M7⟩ | exact ⟨A9A, M9A⟩ | exact ⟨A9, M9⟩ | exact ⟨B_a.drew, B_m.drew⟩)
  clear hK K
  (try simp only [pt_])
  refine tk (i := 12) (oi := ⟨some 42, _, _, _, _, _⟩) (v := ?v12_13) hHeld rfl ?y12_13 ?r12_13
  case y12_13 => (intro w _; first | (go_simp; first | done | with_reducible rfl) | with_reducible rfl)
  (try simp only [pt_])
  refine wpAnyH_ready (rs := [13]) (by kernel_rfl) (by simp) ?_
  refine AllReadyH.cons (o := ⟨none, _, _, _, _, _⟩) rfl (fun K hK => ?_) ?_
  go_simp
  refine hK.out _ _ ?_ (fun hHeld => ?_)
  · (exact ⟨Blk.only A8 ((Only.refl [w2'.heap.size] _).setCell ⟨w2'.heap.size, 7, none⟩ _ (by simp)) (by simp; omega), Blk.only M8 ((Only.refl [w2'.heap.size] _).setCell ⟨w2'.heap.size, 7, none⟩ _ (by simp)) (by simp; omega)⟩)
  clear hK K
  (try simp only [pt_])
  refine wpAnyH_done (by kernel_rfl) ?_ _
  refine NoPanic.normal ?_
  rotate_left 1
  exact AllReadyH.nil
  exact AllReadyH.nil
  exact AllReadyH.nil
  exact AllReadyH.nil
  exact AllReadyH.nil
  exact AllReadyH.nil
  all_goals
    have own4 := own3.push (r := (b9, d9, body)) o11 hdj oc g7 m7
    have hd5 : datas' (rs ++ [(b9, d9, body)]) = a.heard ++ [body] := by rw [← hd.out]; simp [datas']
    replace hd5 := Lib.hid hd5
    have uA : Below w4'.heap.size w4' wz := (Below.refl _ _).drew.trans u9
    have Q9 := Lib.hid o9.feet
    have SW := V_w4'.size
    have E5 : Disj (foot y.sa y.sc) (feetSS a7 c7 (rs ++ [(b9, d9, body)])) := push_feet D58 (fun q hq hq' => by have := Q_o5.out q hq; have := (Q9.out q hq').1; simp at this; omega) m7 (fun q hq => by have := Q_o5.out q hq; have := uA.size; simp; omega)
    have E6 : Disj (foot y.ka y.kc) (feetSS a7 c7 (rs ++ [(b9, d9, body)])) := push_feet D68 (fun q hq hq' => by have := Q_o6.out q hq; have := (Q9.out q hq').1; simp at this; omega) m7 (fun q hq => by have := Q_o6.out q hq; have := uA.size; simp; omega)
    have E7 : Disj [w2'.heap.size] (feetSS a7 c7 (rs ++ [(b9, d9, body)])) := push_feet (fun q hq hq' => by have := Q_o8.out q hq'; simp at hq; omega) (fun q hq hq' => by have := (Q9.out q hq').1; simp at this hq; omega) m7 (fun q hq => by have := uA.size; simp at hq ⊢; omega)
    have Q_own4 := Lib.hid (fun q (hq : q ∈ feetSS a7 c7 (rs ++ [(b9, d9, body)])) => (show (w.heap.size + 3 ≤ q ∧ q < w7.heap.size) ∧ q ≠ w2'.heap.size from ⟨own4.feet q hq, fun e => E7 q (by simp [e]) hq⟩))
    clear own2 o9 o10 o11 own3 oc u9 m7 hdj LIT OO szz A9 M9 B9 A9A M9A B9A g9b g9B A7 M7 B7 j8 j7 f8 f7 G8 A8 M8 B8 k7 hM7 Q9 o8
    clear e_a_7 e_m_2 e_b_8 f_b_8 e_b_7 f_b_7
    replace B_a := B_a.below uA
    replace B_m := B_m.below uA
    replace B_r := B_r.below uA
    replace B_b := B_b.below uA
    replace o5 := o5.below uA
    replace o6 := o6.below uA
    have S_wz := uA.size
    have V_wz : Below w.heap.size w wz := V_w4'.trans (uA.mono V_w4'.size)
    clear V_w4'
    clear uA
    refine Exists.elim (Blk.new_ wz (b := wz.heap.size) rfl 23 #[.slice b9 body.length d9]) (fun w5' q => ?_)
    (try rw [q.1] at g7); (try rw [q.1] at u7); (try rw [q.1]); have B_z := q.2.1; have s_w5' := q.2.2.1; have u_w5' := q.2.2.2; clear q
    replace B_a := B_a.below u_w5'
    replace B_m := B_m.below u_w5'
    replace B_r := B_r.below u_w5'
    replace B_b := B_b.below u_w5'
    replace o5 := o5.below u_w5'
    replace o6 := o6.below u_w5'
    have S_w5' : wz.heap.size + 1 ≤ w5'.heap.size := Nat.le_of_eq s_w5'.symm
    have V_w5' := V_wz.trans (u_w5'.mono (V_wz).size)
    clear u_w5' s_w5' V_wz
    clear B_z
    have oG := Only.of_grown g7
    have V_w7 : Below w.heap.size w w7 := V_w5'.trans (u7.mono (show w.heap.size ≤ w.heap.size + 3 by omega))
    replace B_a := Blk.only B_a oG (fun hq => by have := NN _ hq; omega)
    replace B_m := Blk.only B_m oG (fun hq => by have := NN _ hq; omega)
    replace B_r := Blk.only B_r oG (fun hq => by have := NN _ hq; omega)
    replace B_b := Blk.only B_b oG (fun hq => by have := NN _ hq; omega)
    replace o5 := OwnF.only o5 oG (fun q hq hq' => D58 q hq (List.mem_append_left _ hq'))
    replace o6 := o6.only oG (fun q hq hq' => D68 q hq (List.mem_append_left _ hq'))
    have SLw := oG.size
    clear oG u7 g7 NN
    have g_1 : Only [w2'.heap.size] w7 (w7.setCell ⟨w2'.heap.size, 8, none⟩ (.slice a7 (y.hn + 1) c7)) := (Only.refl _ _).setCell _ _ (by simp)
    replace B_b := B_b.set_ 8 (.slice a7 (y.hn + 1) c7)
    generalize w7.setCell ⟨w2'.heap.size, 8, none⟩ (.slice a7 (y.hn + 1) c7) = w6_1' at *
    have G := g_1
    clear g_1
    have g_2 : Only [w2'.heap.size] w6_1' (w6_1'.setCell ⟨w2'.heap.size, 7, none⟩ (.int .i64 (a.step + 1))) := (Only.refl _ _).setCell _ _ (by simp)
    replace B_b := B_b.set_ 7 (.int .i64 (a.step + 1))
    generalize w6_1'.setCell ⟨w2'.heap.size, 7, none⟩ (.int .i64 (a.step + 1)) = w6' at *
    replace G := G.trans g_2
    clear g_2
    simp only [List.setIfInBounds_toArray, List.set_cons_zero, List.set_cons_succ] at B_b
    have V_w6' := (V_w7).trans (G.below (V_w7).size (fun q hq => by have := (V_w7).size; simp at hq; omega))
    replace B_a := B_a.only G (by first | (simp; done) | (simp; omega))
    replace B_m := B_m.only G (by first | (simp; done) | (simp; omega))
    replace B_r := B_r.only G (by first | (simp; done) | (simp; omega))
    replace o5 := o5.only G (fun q hq hq' => by have := Q_o5.out q hq; simp at hq'; omega)
    replace o6 := o6.only G (fun q hq hq' => by have := Q_o6.out q hq; simp at hq'; omega)
    replace own4 := own4.only G (fun q hq hq' => by have := Q_own4.out q hq; simp at hq'; omega)
    have sG0 := G.size
    clear G
    clear V_w7
    have S_w6' : w7.heap.size + 0 ≤ w6'.heap.size := by omega
    clear sG0
    have e_b := B_b.all11
    have e_r := B_r.all11
    have f_r := B_r.frz11
    go_wp2
    clear e_b e_r f_r
    refine Exists.elim (B_r.row11 (.int .i64 a.P) (.int .i64 a.party) (.int .i64 a.input) (.int .i64 a.mask) (.int .i64 a.delta) (.slice y.sa y.sn y.sc) (.slice y.ka y.kn y.kc) (.int .i64 (a.step + 1)) (.slice a7 (y.hn + 1) c7) (.int .i64 a.status) (.int .i64 a.out)) (fun w7' q => ?_)
    rw [q.1]; replace B_r := q.2.1; have G := q.2.2; clear q
    have V_w7' := (V_w6').trans (G.below (V_w6').size (fun q hq => by have := (V_w6').size; simp at hq; omega))
    replace B_a := B_a.only G (by first | (simp; done) | (simp; omega))
    replace B_m := B_m.only G (by first | (simp; done) | (simp; omega))
    replace B_b := B_b.only G (by first | (simp; done) | (simp; omega))
    replace o5 := o5.only G (fun q hq hq' => by have := Q_o5.out q hq; simp at hq'; omega)
    replace o6 := o6.only G (fun q hq hq' => by have := Q_o6.out q hq; simp at hq'; omega)
    replace own4 := own4.only G (fun q hq hq' => by have := Q_own4.out q hq; simp at hq'; omega)
    have sG0 := G.size
    clear G
    clear V_w6'
    have S_w7' : w6'.heap.size + 0 ≤ w7'.heap.size := by omega
    clear sG0
    have e_r := B_r.all11
    exact bodyPost_ret (v := .agg #[.int .i64 a.P, .int .i64 a.party, .int .i64 a.input, .int .i64 a.mask, .int .i64 a.delta, .slice y.sa y.sn y.sc, .slice y.ka y.kn y.kc, .int .i64 (a.step + 1), .slice a7 (y.hn + 1) c7, .int .i64 a.status, .int .i64 a.out]) (by simp [results, Tryd.results92, go_sem, e_r]) rfl ⟨⟨y.sa, y.sn, y.sc, y.ka, y.kn, y.kc, a7, y.hn + 1, c7⟩, _, rfl, ⟨OwnF.lower o5 (by omega), o6.lower (by omega), _, own4.lower (by omega), hd5.out, D56, E5, E6, rfl⟩, V_w7'⟩
end Go.Proofs.YtlmdckcohoddnaaDoor
namespace Go.Proofs.YtlmdckcohoddnaaDoor
open Go.RowKit
theorem keepS {w wz : World} {q : Addr} {v : Value} (h0 : w.cell? q = some v) (i : Nat) (u : Value) (h : wz.cell? q = some v) : (wz.setCell ⟨w.heap.size, i, none⟩ u).cell? q = some v :=
  cellFar h (by have := World.block_lt_of_cell? w _ h0; show q.block ≠ w.heap.size; omega)
set_option maxHeartbeats 16000000 in
set_option maxRecDepth 100000 in
theorem ptSecond_any (a : Pl) (x : PlX) (w : World) (h : PlR w x a.shares a.keys a.heard) (hN : PlN a) (hs : 1 ≤ a.step) :
    Calls Tryd.prog 133 #[.agg #[.int .i64 a.P, .int .i64 a.party, .int .i64 a.input, .int .i64 a.mask, .int .i64 a.delta, .slice x.sa x.sn x.sc, .slice x.ka x.kn x.kc, .int .i64 a.step, .slice x.ha x.hn x.hc, .int .i64 a.status, .int .i64 a.out]] w fun e w' => ∃ b c, e = .returned (.slice b 2 c) ∧ Flat 2 w' b 2 c [seV0 a, seT0 a, seV1 a, seT1 a] ∧ Below w.heap.size w w' := by
  have hp1 := hN.p1
  have hp2 := hN.p2
  have q0 := f0_rng hN hs
  have q1 := f1_rng hN hs
  have LH := Lib.hid h
  have CF := Lib.hid (fun (W : World) (h2 : PlR W x a.shares a.keys a.heard) => ptFirst_any a x W h2 hN hs)
  have rv0 := hN.sv 0 (by omega)
  have rt0 := hN.st 0 (by omega)
  have rv2 := hN.sv 2 (by omega)
  have rt2 := hN.st 2 (by omega)
  have rs0 := shfV_rng hN (shV a 0) (f0 a) rv0
  have CS0 := Lib.hid (fun (W : World) => ptShift_any a x (shV a 0) (shT a 0) (f0 a) W hN (by omega) (by omega))
  have CA0 := Lib.hid (fun (W : World) => (show Calls Tryd.prog 142 #[.int .i64 a.P, .agg #[.int .i64 (shfV a (shV a 0) (f0 a)), .int .i64 (shT a 0)], .agg #[.int .i64 (shV a 2), .int .i64 (shT a 2)], .int .i64 (a.P - 1)] W fun e w' => e = .returned (.agg #[.int .i64 (seV0 a), .int .i64 (seT0 a)]) ∧ Below W.heap.size W w' by rw [← seV0_eq hN, ← seT0_eq]; exact tgAdd_any a.P (shfV a (shV a 0) (f0 a)) (shT a 0) (shV a 2) (shT a 2) (a.P - 1) W (by omega) (by omega) rs0 rt0 rv2 rt2 (by omega)))
  have rv1 := hN.sv 1 (by omega)
  have rt1 := hN.st 1 (by omega)
  have rv3 := hN.sv 3 (by omega)
  have rt3 := hN.st 3 (by omega)
  have rs1 := shfV_rng hN (shV a 1) (f1 a) rv1
  have CS1 := Lib.hid (fun (W : World) => ptShift_any a x (shV a 1) (shT a 1) (f1 a) W hN (by omega) (by omega))
  have CA1 := Lib.hid (fun (W : World) => (show Calls Tryd.prog 142 #[.int .i64 a.P, .agg #[.int .i64 (shfV a (shV a 1) (f1 a)), .int .i64 (shT a 1)], .agg #[.int .i64 (shV a 3), .int .i64 (shT a 3)], .int .i64 (a.P - 1)] W fun e w' => e = .returned (.agg #[.int .i64 (seV1 a), .int .i64 (seT1 a)]) ∧ Below W.heap.size W w' by rw [← seV1_eq hN, ← seT1_eq]; exact tgAdd_any a.P (shfV a (shV a 1) (f1 a)) (shT a 1) (shV a 3) (shT a 3) (a.P - 1) W (by omega) (by omega) rs1 rt1 rv3 rt3 (by omega)))
  have t1 : IntKind.i64.wrap (a.P - 1) = a.P - 1 := IntWalk.i64_in _ (by omega)
  have sw0 : IntKind.i64.wrap 0 = 0 := IntWalk.i64_in _ (by omega)
  have sw1 : IntKind.i64.wrap 1 = 1 := IntWalk.i64_in _ (by omega)
  have sw2 : IntKind.i64.wrap 2 = 2 := IntWalk.i64_in _ (by omega)
  have sw3 : IntKind.i64.wrap 3 = 3 := IntWalk.i64_in _ (by omega)
  obtain ⟨hS, _⟩ := h
  have hs5 : x.sn = 5 := by have := hS.len; have := hN.sl; omega
  obtain ⟨gs, os, hsa, hc⟩ := hS.at (by omega)
  have hsn : (x.sn : Int) = 5 := by omega
  have y0 : w.cell? ⟨gs, os, none⟩ = some (.int .i64 (shV a 0)) := hc 0 (by omega)
  have y1 : w.cell? ⟨gs, os + 1, none⟩ = some (.int .i64 (shT a 0)) := hc 1 (by omega)
  have y2 : w.cell? ⟨gs, os + 2, none⟩ = some (.int .i64 (shV a 1)) := hc 2 (by omega)
  have y3 : w.cell? ⟨gs, os + 3, none⟩ = some (.int .i64 (shT a 1)) := hc 3 (by omega)
  have y4 : w.cell? ⟨gs, os + 4, none⟩ = some (.int .i64 (shV a 2)) := hc 4 (by omega)
  have y5 : w.cell? ⟨gs, os + 5, none⟩ = some (.int .i64 (shT a 2)) := hc 5 (by omega)
  have y6 : w.cell? ⟨gs, os + 6, none⟩ = some (.int .i64 (shV a 3)) := hc 6 (by omega)
  have y7 : w.cell? ⟨gs, os + 7, none⟩ = some (.int .i64 (shT a 3)) := hc 7 (by omega)
  clear hc hS hN hs
  obtain ⟨x_sa, x_sn, x_sc, x_ka, x_kn, x_kc, x_ha, x_hn, x_hc⟩ := x
  dsimp only at *
  subst hsa
  subst hs5
  go_enter Tryd.func133, Tryd.ntmps133
  go_wp2_with fail
  refine Exists.elim (Blk.new_ w (b := w.heap.size) rfl 31 #[.int .i64 a.P, .int .i64 a.party, .int .i64 a.input, .int .i64 a.mask, .int .i64 a.delta, .slice (some ⟨gs, os, none⟩) 5 x_sc, .slice x_ka x_kn x_kc, .int .i64 a.step, .slice x_ha x_hn x_hc, .int .i64 a.status, .int .i64 a.out]) (fun w1' q => ?_)
  rw [q.1]; have B_a := q.2.1; have s_w1' := q.2.2.1; have u_w1' := q.2.2.2; clear q
  have S_w1' : w.heap.size + 1 ≤ w1'.heap.size := Nat.le_of_eq s_w1'.symm
  have V_w1' := (Below.refl w.heap.size w).trans (u_w1'.mono ((Below.refl w.heap.size w)).size)
  clear u_w1' s_w1'
  refine (CF.out _ (LH.out.below V_w1')).mono ?_
  rintro e w2' ⟨bf, cf, rfl, hf, u_w2'⟩
  replace B_a := B_a.below u_w2'
  have S_w2' := u_w2'.size
  have V_w2' : Below w.heap.size w w2' := V_w1'.trans (u_w2'.mono V_w1'.size)
  clear V_w1'
  clear u_w2'
  obtain ⟨gf, of, rfl, hfc⟩ := hf.cells (by omega)
  have z0 := hfc 0 (by omega)
  have z1 := hfc 1 (by omega)
  rw [Nat.add_zero] at z0
  change w2'.cell? ⟨gf, of, none⟩ = some (.int .i64 (f0 a)) at z0
  change w2'.cell? ⟨gf, of + 1, none⟩ = some (.int .i64 (f1 a)) at z1
  clear hfc hf
  have VB := V_w2'
  have SB := V_w2'.size
  go_wp2
  go_loopw [4, 5] (fun u v wr => ∃ k : Nat, k ≤ 2 ∧ v = .int .i64 k ∧ Below w2'.heap.size w2' wr ∧ ∃ c5 d5, u = .slice c5 k d5 ∧ OwnF 2 eTagged wr w2'.heap.size c5 k d5 ([seV0 a, seT0 a, seV1 a, seT1 a].take (2 * k))) (fun _ v _ => 2 - (intOf v).toNat)
  case atStart => exact ⟨0, by omega, rfl, Below.refl _ _, _, _, rfl, OwnC.nil0 _ _ _ _ _⟩
  case round =>
    obtain ⟨k, hk, rfl, hbel, c5, d5, rfl, own⟩ := hrel
    have B_a := B_a.below hbel
    have V_wr := V_w2'.trans (hbel.mono V_w2'.size)
    have S_wr := hbel.size
    by_cases hlt : k < 2
    · have hcase : k = 0 ∨ k = 1 := by omega
      rcases hcase with rfl | rfl
      · skip
        have own' : OwnF 2 eTagged wr w2'.heap.size c5 0 d5 [] := own
        clear own
        rw [show ((0 : Nat) : Int) = 0 from rfl]
        have QF := Lib.hid own'.feet
        have ga := World.block_lt_of_cell? w _ y0
        dsimp only at ga
        have Na : w.heap.size ∉ foot c5 d5 := fun hq => by have := QF.out _ hq; have := S_w1'; have := S_w2'; omega
        have Ng : gs ∉ foot c5 d5 := fun hq => by have := QF.out _ hq; have := SB; omega
        have SR : w2'.heap.size ≤ wr.heap.size := hbel.size
        have p0 := keepC V_wr y0
        have p1 := keepC V_wr y1
        have p2 := keepC V_wr y4
        have p3 := keepC V_wr y5
        have p4 := keepC hbel z0
        go_wp2
        have e_a_0 := B_a.a11_0
        have e_a_1 := B_a.a11_1
        have e_a_2 := B_a.a11_2
        have e_a_3 := B_a.a11_3
        have e_a_4 := B_a.a11_4
        have e_a_5 := B_a.a11_5
        have e_a_6 := B_a.a11_6
        have e_a_7 := B_a.a11_7
        have e_a_8 := B_a.a11_8
        have e_a_9 := B_a.a11_9
        have e_a_10 := B_a.a11_10
        go_region_held3 (fun W => W.cell? ⟨w.heap.size, 0, none⟩ = some (.int .i64 a.P) ∧ W.cell? ⟨w.heap.size, 1, none⟩ = some (.int .i64 a.party) ∧ W.cell? ⟨w.heap.size, 2, none⟩ = some (.int .i64 a.input) ∧ W.cell? ⟨w.heap.size, 3, none⟩ = some (.int .i64 a.mask) ∧ W.cell? ⟨w.heap.size, 4, none⟩ = some (.int .i64 a.delta) ∧ W.cell? ⟨w.heap.size, 5, none⟩ = some (.slice (some ⟨gs, os, none⟩) 5 x_sc) ∧ W.cell? ⟨w.heap.size, 6, none⟩ = some (.slice x_ka x_kn x_kc) ∧ W.cell? ⟨w.heap.size, 7, none⟩ = some (.int .i64 a.step) ∧ W.cell? ⟨w.heap.size, 8, none⟩ = some (.slice x_ha x_hn x_hc) ∧ W.cell? ⟨w.heap.size, 9, none⟩ = some (.int .i64 a.status) ∧ W.cell? ⟨w.heap.size, 10, none⟩ = some (.int .i64 a.out) ∧ W.cell? ⟨gs, os, none⟩ = some (.int .i64 (shV a 0)) ∧ W.cell? ⟨gs, os + 1, none⟩ = some (.int .i64 (shT a 0)) ∧ W.cell? ⟨gf, of, none⟩ = some (.int .i64 (f0 a)))
          (first | exact ⟨e_a, p0, p1, p4⟩ | exact ⟨keepA _ e_a_0, keepA _ e_a_1, keepA _ e_a_2, keepA _ e_a_3, keepA _ e_a_4, keepA _ e_a_5, keepA _ e_a_6, keepA _ e_a_7, keepA _ e_a_8, keepA _ e_a_9, keepA _ e_a_10, keepA _ p0, keepA _ p1, keepA _ p4⟩ | exact ⟨keepC u (keepA _ e_a_0), keepC u (keepA _ e_a_1), keepC u (keepA _ e_a_2), keepC u (keepA _ e_a_3), keepC u (keepA _ e_a_4), keepC u (keepA _ e_a_5), keepC u (keepA _ e_a_6), keepC u (keepA _ e_a_7), keepC u (keepA _ e_a_8), keepC u (keepA _ e_a_9), keepC u (keepA _ e_a_10), keepC u (keepA _ p0), keepC u (keepA _ p1), keepC u (keepA _ p4)⟩ | exact ⟨keepC u e_a_0, keepC u e_a_1, keepC u e_a_2, keepC u e_a_3, keepC u e_a_4, keepC u e_a_5, keepC u e_a_6, keepC u e_a_7, keepC u e_a_8, keepC u e_a_9, keepC u e_a_10, keepC u p0, keepC u p1, keepC u p4⟩ | exact ⟨keepA _ (keepC u e_a_0), keepA _ (keepC u e_a_1), keepA _ (keepC u e_a_2), keepA _ (keepC u e_a_3), keepA _ (keepC u e_a_4), keepA _ (keepC u e_a_5), keepA _ (keepC u e_a_6), keepA _ (keepC u e_a_7), keepA _ (keepC u e_a_8), keepA _ (keepC u e_a_9), keepA _ (keepC u e_a_10), keepA _ (keepC u p0), keepA _ (keepC u p1), keepA _ (keepC u p4)⟩ | exact ⟨keepS e_a_0 _ _ (keepS e_a_0 _ _ (keepC u (keepA _ e_a_0))), keepS e_a_1 _ _ (keepS e_a_1 _ _ (keepC u (keepA _ e_a_1))), keepS e_a_2 _ _ (keepS e_a_2 _ _ (keepC u (keepA _ e_a_2))), keepS e_a_3 _ _ (keepS e_a_3 _ _ (keepC u (keepA _ e_a_3))), keepS e_a_4 _ _ (keepS e_a_4 _ _ (keepC u (keepA _ e_a_4))), keepS e_a_5 _ _ (keepS e_a_5 _ _ (keepC u (keepA _ e_a_5))), keepS e_a_6 _ _ (keepS e_a_6 _ _ (keepC u (keepA _ e_a_6))), keepS e_a_7 _ _ (keepS e_a_7 _ _ (keepC u (keepA _ e_a_7))), keepS e_a_8 _ _ (keepS e_a_8 _ _ (keepC u (keepA _ e_a_8))), keepS e_a_9 _ _ (keepS e_a_9 _ _ (keepC u (keepA _ e_a_9))), keepS e_a_10 _ _ (keepS e_a_10 _ _ (keepC u (keepA _ e_a_10))), keepS p0 _ _ (keepS p0 _ _ (keepC u (keepA _ p0))), keepS p1 _ _ (keepS p1 _ _ (keepC u (keepA _ p1))), keepS p4 _ _ (keepS p4 _ _ (keepC u (keepA _ p4)))⟩ | go_keep)
          (first | (go_at_call 143; refine (CS0.out _).mono ?_; rintro e wz ⟨rfl, u⟩; have BO : Blk wz wr.heap.size 81 #[.int .i64 0, .int .i64 0] := Blk.below (Blk.new wr 81 #[.int .i64 0, .int .i64 0]).drew u; have bo0 : wz.cell? ⟨wr.heap.size, 0, none⟩ = some (.int .i64 0) := BO.cell 0; have bf0 : wz.frozen? ⟨wr.heap.size, 0, none⟩ = false := BO.frozen 0; have bo1 : wz.cell? ⟨wr.heap.size, 1, none⟩ = some (.int .i64 0) := BO.cell 1; have bf1 : wz.frozen? ⟨wr.heap.size, 1, none⟩ = false := BO.frozen 1) | (go_at_call 143; refine (CS0.out _).mono ?_; rintro e wz ⟨rfl, u⟩))
        all_goals first
          | (have u1 : Below wr.heap.size wr wz := ((Below.refl _ wr).alloc (Nat.le_refl _) (.cells #[.int .i64 0, .int .i64 0] 81)).drew.trans (u.mono (by simp))
             have G : Only [wr.heap.size] wz ((wz.setCell ⟨wr.heap.size, 0, none⟩ (.int .i64 (shfV a (shV a 0) (f0 a)))).setCell ⟨wr.heap.size, 1, none⟩ (.int .i64 (shT a 0))) := (((Only.refl [wr.heap.size] wz).setCell ⟨wr.heap.size, 0, none⟩ (.int .i64 (shfV a (shV a 0) (f0 a))) (by simp)).setCell ⟨wr.heap.size, 1, none⟩ (.int .i64 (shT a 0)) (by simp))
             have hV : Below wr.heap.size wr ((wz.setCell ⟨wr.heap.size, 0, none⟩ (.int .i64 (shfV a (shV a 0) (f0 a)))).setCell ⟨wr.heap.size, 1, none⟩ (.int .i64 (shT a 0))) := u1.trans (G.below u1.size (fun q hq => by simp at hq; omega))
             have B_y : Blk ((wz.setCell ⟨wr.heap.size, 0, none⟩ (.int .i64 (shfV a (shV a 0) (f0 a)))).setCell ⟨wr.heap.size, 1, none⟩ (.int .i64 (shT a 0))) wr.heap.size 81 #[.int .i64 (shfV a (shV a 0) (f0 a)), .int .i64 (shT a 0)] := ((BO.set_ 0 (.int .i64 (shfV a (shV a 0) (f0 a)))).set_ 1 (.int .i64 (shT a 0)))
             have hob : wr.heap.size ≤ wr.heap.size := Nat.le_refl _
             clear G u1 u BO bo0 bf0 bo1 bf1
             generalize ((wz.setCell ⟨wr.heap.size, 0, none⟩ (.int .i64 (shfV a (shV a 0) (f0 a)))).setCell ⟨wr.heap.size, 1, none⟩ (.int .i64 (shT a 0))) = WW at *
             generalize hob' : wr.heap.size = ob at B_y ⊢
             rw [hob'] at hob
             replace hob : wr.heap.size ≤ ob := by omega
             clear hob')
          | (have u1 : Below wr.heap.size wr wz := (Below.refl _ wr).drew.trans u
             have hV : Below wr.heap.size wr (wz.alloc (.cells #[.int .i64 (shfV a (shV a 0) (f0 a)), .int .i64 (shT a 0)] 81)) := u1.alloc u1.size _
             have B_y : Blk (wz.alloc (.cells #[.int .i64 (shfV a (shV a 0) (f0 a)), .int .i64 (shT a 0)] 81)) wz.heap.size 81 #[.int .i64 (shfV a (shV a 0) (f0 a)), .int .i64 (shT a 0)] := Blk.new _ _ _
             have hob : wr.heap.size ≤ wz.heap.size := u1.size
             clear u1 u
             generalize wz.alloc (.cells #[.int .i64 (shfV a (shV a 0) (f0 a)), .int .i64 (shT a 0)] 81) = WW at *
             generalize wz.heap.size = ob at *)
        all_goals
          have hb9 := hbel.trans (hV.mono hbel.size)
          have No : ob ∉ foot c5 d5 := fun hq => by have := (QF.out _ hq).2; omega
          have r2 := keepC hV p2
          have r3 := keepC hV p3
          clear p0 p1 p2 p3 p4
          clear e_a_0 e_a_1 e_a_2 e_a_3 e_a_4 e_a_5 e_a_6 e_a_7 e_a_8 e_a_9 e_a_10
          replace B_a := B_a.below hV
          replace own' := own'.below hV
          have S_WW := hV.size
          have V_WW : Below w.heap.size w WW := V_wr.trans (hV.mono V_wr.size)
          clear V_wr
          clear hV
          have e_a_0 := B_a.a11_0
          have e_a_1 := B_a.a11_1
          have e_a_2 := B_a.a11_2
          have e_a_3 := B_a.a11_3
          have e_a_4 := B_a.a11_4
          have e_a_5 := B_a.a11_5
          have e_a_6 := B_a.a11_6
          have e_a_7 := B_a.a11_7
          have e_a_8 := B_a.a11_8
          have e_a_9 := B_a.a11_9
          have e_a_10 := B_a.a11_10
          have e_y_0 := B_y.a2_0
          have e_y_1 := B_y.a2_1
          go_wp2
          go_region_held3 (fun W => W.cell? ⟨w.heap.size, 0, none⟩ = some (.int .i64 a.P) ∧ W.cell? ⟨w.heap.size, 1, none⟩ = some (.int .i64 a.party) ∧ W.cell? ⟨w.heap.size, 2, none⟩ = some (.int .i64 a.input) ∧ W.cell? ⟨w.heap.size, 3, none⟩ = some (.int .i64 a.mask) ∧ W.cell? ⟨w.heap.size, 4, none⟩ = some (.int .i64 a.delta) ∧ W.cell? ⟨w.heap.size, 5, none⟩ = some (.slice (some ⟨gs, os, none⟩) 5 x_sc) ∧ W.cell? ⟨w.heap.size, 6, none⟩ = some (.slice x_ka x_kn x_kc) ∧ W.cell? ⟨w.heap.size, 7, none⟩ = some (.int .i64 a.step) ∧ W.cell? ⟨w.heap.size, 8, none⟩ = some (.slice x_ha x_hn x_hc) ∧ W.cell? ⟨w.heap.size, 9, none⟩ = some (.int .i64 a.status) ∧ W.cell? ⟨w.heap.size, 10, none⟩ = some (.int .i64 a.out) ∧ W.cell? ⟨ob, 0, none⟩ = some (.int .i64 (shfV a (shV a 0) (f0 a))) ∧ W.cell? ⟨ob, 1, none⟩ = some (.int .i64 (shT a 0)) ∧ W.cell? ⟨gs, os + 4, none⟩ = some (.int .i64 (shV a 2)) ∧ W.cell? ⟨gs, os + 5, none⟩ = some (.int .i64 (shT a 2)))
            (first | exact ⟨e_a, e_y, r2, r3⟩ | exact ⟨keepC u e_a_0, keepC u e_a_1, keepC u e_a_2, keepC u e_a_3, keepC u e_a_4, keepC u e_a_5, keepC u e_a_6, keepC u e_a_7, keepC u e_a_8, keepC u e_a_9, keepC u e_a_10, keepC u e_y_0, keepC u e_y_1, keepC u r2, keepC u r3⟩ | exact ⟨keepA _ (keepC u e_a_0), keepA _ (keepC u e_a_1), keepA _ (keepC u e_a_2), keepA _ (keepC u e_a_3), keepA _ (keepC u e_a_4), keepA _ (keepC u e_a_5), keepA _ (keepC u e_a_6), keepA _ (keepC u e_a_7), keepA _ (keepC u e_a_8), keepA _ (keepC u e_a_9), keepA _ (keepC u e_a_10), keepA _ (keepC u e_y_0), keepA _ (keepC u e_y_1), keepA _ (keepC u r2), keepA _ (keepC u r3)⟩ | exact ⟨keepGr g6 Na (keepA _ (keepC u e_a_0)), keepGr g6 Na (keepA _ (keepC u e_a_1)), keepGr g6 Na (keepA _ (keepC u e_a_2)), keepGr g6 Na (keepA _ (keepC u e_a_3)), keepGr g6 Na (keepA _ (keepC u e_a_4)), keepGr g6 Na (keepA _ (keepC u e_a_5)), keepGr g6 Na (keepA _ (keepC u e_a_6)), keepGr g6 Na (keepA _ (keepC u e_a_7)), keepGr g6 Na (keepA _ (keepC u e_a_8)), keepGr g6 Na (keepA _ (keepC u e_a_9)), keepGr g6 Na (keepA _ (keepC u e_a_10)), keepGr g6 No (keepA _ (keepC u e_y_0)), keepGr g6 No (keepA _ (keepC u e_y_1)), keepGr g6 Ng (keepA _ (keepC u r2)), keepGr g6 Ng (keepA _ (keepC u r3))⟩ | go_keep)
            (first | (go_at_call 142; refine (CA0.out _).mono ?_; rintro e wz ⟨rfl, u⟩; have own2 := own'.below ((Below.refl _ _).drew.trans u); have SZ : WW.heap.size ≤ wz.heap.size := u.size) | (refine step_appT (by rfl) _ _ (by rfl) w2'.heap.size c5 0 d5 _ (by rfl) (by first | exact OwnF.alloc own2 _ | exact OwnF.drew (OwnF.alloc own2 _)) _ 1 1 [.int .i64 (seV0 a), .int .i64 (seT0 a)] (by rfl) (by first | exact (OwnC.lit wz wz.heap.size 1 81 2 [.int .i64 (seV0 a), .int .i64 (seT0 a)] (Nat.le_refl _) rfl (by simp [maxLen])).row | exact RowC.drew (OwnC.lit wz wz.heap.size 1 81 2 [.int .i64 (seV0 a), .int .i64 (seT0 a)] (Nat.le_refl _) rfl (by simp [maxLen])).row) (by simp [Value.oneCell']) (by omega) (by have := hb9.size; simp; omega) ?_; intro a6 c6 w6 o6 u6 g6 m6))
          have u9 := (Below.refl _ _).drew.trans u
          have hb8 := hb9.trans (u9.mono hb9.size)
          have hb7 := (hb8.alloc hb8.size _).trans (by first | exact u6 | exact (Below.refl _ _).drew.trans u6)
          clear u6 u u9 hb8 hb9 g6 m6 own' own2
          go_wp2
          go_roundw
          case rel => exact ⟨0 + 1, by omega, by go_num, hb7, a6, c6, rfl, o6⟩
          case measure => simp [intOf]
      · skip
        have own' : OwnF 2 eTagged wr w2'.heap.size c5 1 d5 [seV0 a, seT0 a] := own
        clear own
        rw [show ((1 : Nat) : Int) = 1 from rfl]
        have QF := Lib.hid own'.feet
        have ga := World.block_lt_of_cell? w _ y0
        dsimp only at ga
        have Na : w.heap.size ∉ foot c5 d5 := fun hq => by have := QF.out _ hq; have := S_w1'; have := S_w2'; omega
        have Ng : gs ∉ foot c5 d5 := fun hq => by have := QF.out _ hq; have := SB; omega
        have SR : w2'.heap.size ≤ wr.heap.size := hbel.size
        have p0 := keepC V_wr y2
        have p1 := keepC V_wr y3
        have p2 := keepC V_wr y6
        have p3 := keepC V_wr y7
        have p4 := keepC hbel z1
        go_wp2
        have e_a_0 := B_a.a11_0
        have e_a_1 := B_a.a11_1
        have e_a_2 := B_a.a11_2
        have e_a_3 := B_a.a11_3
        have e_a_4 := B_a.a11_4
        have e_a_5 := B_a.a11_5
        have e_a_6 := B_a.a11_6
        have e_a_7 := B_a.a11_7
        have e_a_8 := B_a.a11_8
        have e_a_9 := B_a.a11_9
        have e_a_10 := B_a.a11_10
        go_region_held3 (fun W => W.cell? ⟨w.heap.size, 0, none⟩ = some (.int .i64 a.P) ∧ W.cell? ⟨w.heap.size, 1, none⟩ = some (.int .i64 a.party) ∧ W.cell? ⟨w.heap.size, 2, none⟩ = some (.int .i64 a.input) ∧ W.cell? ⟨w.heap.size, 3, none⟩ = some (.int .i64 a.mask) ∧ W.cell? ⟨w.heap.size, 4, none⟩ = some (.int .i64 a.delta) ∧ W.cell? ⟨w.heap.size, 5, none⟩ = some (.slice (some ⟨gs, os, none⟩) 5 x_sc) ∧ W.cell? ⟨w.heap.size, 6, none⟩ = some (.slice x_ka x_kn x_kc) ∧ W.cell? ⟨w.heap.size, 7, none⟩ = some (.int .i64 a.step) ∧ W.cell? ⟨w.heap.size, 8, none⟩ = some (.slice x_ha x_hn x_hc) ∧ W.cell? ⟨w.heap.size, 9, none⟩ = some (.int .i64 a.status) ∧ W.cell? ⟨w.heap.size, 10, none⟩ = some (.int .i64 a.out) ∧ W.cell? ⟨gs, os + 2, none⟩ = some (.int .i64 (shV a 1)) ∧ W.cell? ⟨gs, os + 3, none⟩ = some (.int .i64 (shT a 1)) ∧ W.cell? ⟨gf, of + 1, none⟩ = some (.int .i64 (f1 a)))
          (first | exact ⟨e_a, p0, p1, p4⟩ | exact ⟨keepA _ e_a_0, keepA _ e_a_1, keepA _ e_a_2, keepA _ e_a_3, keepA _ e_a_4, keepA _ e_a_5, keepA _ e_a_6, keepA _ e_a_7, keepA _ e_a_8, keepA _ e_a_9, keepA _ e_a_10, keepA _ p0, keepA _ p1, keepA _ p4⟩ | exact ⟨keepC u (keepA _ e_a_0), keepC u (keepA _ e_a_1), keepC u (keepA _ e_a_2), keepC u (keepA _ e_a_3), keepC u (keepA _ e_a_4), keepC u (keepA _ e_a_5), keepC u (keepA _ e_a_6), keepC u (keepA _ e_a_7), keepC u (keepA _ e_a_8), keepC u (keepA _ e_a_9), keepC u (keepA _ e_a_10), keepC u (keepA _ p0), keepC u (keepA _ p1), keepC u (keepA _ p4)⟩ | exact ⟨keepC u e_a_0, keepC u e_a_1, keepC u e_a_2, keepC u e_a_3, keepC u e_a_4, keepC u e_a_5, keepC u e_a_6, keepC u e_a_7, keepC u e_a_8, keepC u e_a_9, keepC u e_a_10, keepC u p0, keepC u p1, keepC u p4⟩ | exact ⟨keepA _ (keepC u e_a_0), keepA _ (keepC u e_a_1), keepA _ (keepC u e_a_2), keepA _ (keepC u e_a_3), keepA _ (keepC u e_a_4), keepA _ (keepC u e_a_5), keepA _ (keepC u e_a_6), keepA _ (keepC u e_a_7), keepA _ (keepC u e_a_8), keepA _ (keepC u e_a_9), keepA _ (keepC u e_a_10), keepA _ (keepC u p0), keepA _ (keepC u p1), keepA _ (keepC u p4)⟩ | exact ⟨keepS e_a_0 _ _ (keepS e_a_0 _ _ (keepC u (keepA _ e_a_0))), keepS e_a_1 _ _ (keepS e_a_1 _ _ (keepC u (keepA _ e_a_1))), keepS e_a_2 _ _ (keepS e_a_2 _ _ (keepC u (keepA _ e_a_2))), keepS e_a_3 _ _ (keepS e_a_3 _ _ (keepC u (keepA _ e_a_3))), keepS e_a_4 _ _ (keepS e_a_4 _ _ (keepC u (keepA _ e_a_4))), keepS e_a_5 _ _ (keepS e_a_5 _ _ (keepC u (keepA _ e_a_5))), keepS e_a_6 _ _ (keepS e_a_6 _ _ (keepC u (keepA _ e_a_6))), keepS e_a_7 _ _ (keepS e_a_7 _ _ (keepC u (keepA _ e_a_7))), keepS e_a_8 _ _ (keepS e_a_8 _ _ (keepC u (keepA _ e_a_8))), keepS e_a_9 _ _ (keepS e_a_9 _ _ (keepC u (keepA _ e_a_9))), keepS e_a_10 _ _ (keepS e_a_10 _ _ (keepC u (keepA _ e_a_10))), keepS p0 _ _ (keepS p0 _ _ (keepC u (keepA _ p0))), keepS p1 _ _ (keepS p1 _ _ (keepC u (keepA _ p1))), keepS p4 _ _ (keepS p4 _ _ (keepC u (keepA _ p4)))⟩ | go_keep)
          (first | (go_at_call 143; refine (CS1.out _).mono ?_; rintro e wz ⟨rfl, u⟩; have BO : Blk wz wr.heap.size 81 #[.int .i64 0, .int .i64 0] := Blk.below (Blk.new wr 81 #[.int .i64 0, .int .i64 0]).drew u; have bo0 : wz.cell? ⟨wr.heap.size, 0, none⟩ = some (.int .i64 0) := BO.cell 0; have bf0 : wz.frozen? ⟨wr.heap.size, 0, none⟩ = false := BO.frozen 0; have bo1 : wz.cell? ⟨wr.heap.size, 1, none⟩ = some (.int .i64 0) := BO.cell 1; have bf1 : wz.frozen? ⟨wr.heap.size, 1, none⟩ = false := BO.frozen 1) | (go_at_call 143; refine (CS1.out _).mono ?_; rintro e wz ⟨rfl, u⟩))
        all_goals first
          | (have u1 : Below wr.heap.size wr wz := ((Below.refl _ wr).alloc (Nat.le_refl _) (.cells #[.int .i64 0, .int .i64 0] 81)).drew.trans (u.mono (by simp))
             have G : Only [wr.heap.size] wz ((wz.setCell ⟨wr.heap.size, 0, none⟩ (.int .i64 (shfV a (shV a 1) (f1 a)))).setCell ⟨wr.heap.size, 1, none⟩ (.int .i64 (shT a 1))) := (((Only.refl [wr.heap.size] wz).setCell ⟨wr.heap.size, 0, none⟩ (.int .i64 (shfV a (shV a 1) (f1 a))) (by simp)).setCell ⟨wr.heap.size, 1, none⟩ (.int .i64 (shT a 1)) (by simp))
             have hV : Below wr.heap.size wr ((wz.setCell ⟨wr.heap.size, 0, none⟩ (.int .i64 (shfV a (shV a 1) (f1 a)))).setCell ⟨wr.heap.size, 1, none⟩ (.int .i64 (shT a 1))) := u1.trans (G.below u1.size (fun q hq => by simp at hq; omega))
             have B_y : Blk ((wz.setCell ⟨wr.heap.size, 0, none⟩ (.int .i64 (shfV a (shV a 1) (f1 a)))).setCell ⟨wr.heap.size, 1, none⟩ (.int .i64 (shT a 1))) wr.heap.size 81 #[.int .i64 (shfV a (shV a 1) (f1 a)), .int .i64 (shT a 1)] := ((BO.set_ 0 (.int .i64 (shfV a (shV a 1) (f1 a)))).set_ 1 (.int .i64 (shT a 1)))
             have hob : wr.heap.size ≤ wr.heap.size := Nat.le_refl _
             clear G u1 u BO bo0 bf0 bo1 bf1
             generalize ((wz.setCell ⟨wr.heap.size, 0, none⟩ (.int .i64 (shfV a (shV a 1) (f1 a)))).setCell ⟨wr.heap.size, 1, none⟩ (.int .i64 (shT a 1))) = WW at *
             generalize hob' : wr.heap.size = ob at B_y ⊢
             rw [hob'] at hob
             replace hob : wr.heap.size ≤ ob := by omega
             clear hob')
          | (have u1 : Below wr.heap.size wr wz := (Below.refl _ wr).drew.trans u
             have hV : Below wr.heap.size wr (wz.alloc (.cells #[.int .i64 (shfV a (shV a 1) (f1 a)), .int .i64 (shT a 1)] 81)) := u1.alloc u1.size _
             have B_y : Blk (wz.alloc (.cells #[.int .i64 (shfV a (shV a 1) (f1 a)), .int .i64 (shT a 1)] 81)) wz.heap.size 81 #[.int .i64 (shfV a (shV a 1) (f1 a)), .int .i64 (shT a 1)] := Blk.new _ _ _
             have hob : wr.heap.size ≤ wz.heap.size := u1.size
             clear u1 u
             generalize wz.alloc (.cells #[.int .i64 (shfV a (shV a 1) (f1 a)), .int .i64 (shT a 1)] 81) = WW at *
             generalize wz.heap.size = ob at *)
        all_goals
          have hb9 := hbel.trans (hV.mono hbel.size)
          have No : ob ∉ foot c5 d5 := fun hq => by have := (QF.out _ hq).2; omega
          have r2 := keepC hV p2
          have r3 := keepC hV p3
          clear p0 p1 p2 p3 p4
          clear e_a_0 e_a_1 e_a_2 e_a_3 e_a_4 e_a_5 e_a_6 e_a_7 e_a_8 e_a_9 e_a_10
          replace B_a := B_a.below hV
          replace own' := own'.below hV
          have S_WW := hV.size
          have V_WW : Below w.heap.size w WW := V_wr.trans (hV.mono V_wr.size)
          clear V_wr
          clear hV
          have e_a_0 := B_a.a11_0
          have e_a_1 := B_a.a11_1
          have e_a_2 := B_a.a11_2
          have e_a_3 := B_a.a11_3
          have e_a_4 := B_a.a11_4
          have e_a_5 := B_a.a11_5
          have e_a_6 := B_a.a11_6
          have e_a_7 := B_a.a11_7
          have e_a_8 := B_a.a11_8
          have e_a_9 := B_a.a11_9
          have e_a_10 := B_a.a11_10
          have e_y_0 := B_y.a2_0
          have e_y_1 := B_y.a2_1
          go_wp2
          go_region_held3 (fun W => W.cell? ⟨w.heap.size, 0, none⟩ = some (.int .i64 a.P) ∧ W.cell? ⟨w.heap.size, 1, none⟩ = some (.int .i64 a.party) ∧ W.cell? ⟨w.heap.size, 2, none⟩ = some (.int .i64 a.input) ∧ W.cell? ⟨w.heap.size, 3, none⟩ = some (.int .i64 a.mask) ∧ W.cell? ⟨w.heap.size, 4, none⟩ = some (.int .i64 a.delta) ∧ W.cell? ⟨w.heap.size, 5, none⟩ = some (.slice (some ⟨gs, os, none⟩) 5 x_sc) ∧ W.cell? ⟨w.heap.size, 6, none⟩ = some (.slice x_ka x_kn x_kc) ∧ W.cell? ⟨w.heap.size, 7, none⟩ = some (.int .i64 a.step) ∧ W.cell? ⟨w.heap.size, 8, none⟩ = some (.slice x_ha x_hn x_hc) ∧ W.cell? ⟨w.heap.size, 9, none⟩ = some (.int .i64 a.status) ∧ W.cell? ⟨w.heap.size, 10, none⟩ = some (.int .i64 a.out) ∧ W.cell? ⟨ob, 0, none⟩ = some (.int .i64 (shfV a (shV a 1) (f1 a))) ∧ W.cell? ⟨ob, 1, none⟩ = some (.int .i64 (shT a 1)) ∧ W.cell? ⟨gs, os + 6, none⟩ = some (.int .i64 (shV a 3)) ∧ W.cell? ⟨gs, os + 7, none⟩ = some (.int .i64 (shT a 3)))
            (first | exact ⟨e_a, e_y, r2, r3⟩ | exact ⟨keepC u e_a_0, keepC u e_a_1, keepC u e_a_2, keepC u e_a_3, keepC u e_a_4, keepC u e_a_5, keepC u e_a_6, keepC u e_a_7, keepC u e_a_8, keepC u e_a_9, keepC u e_a_10, keepC u e_y_0, keepC u e_y_1, keepC u r2, keepC u r3⟩ | exact ⟨keepA _ (keepC u e_a_0), keepA _ (keepC u e_a_1), keepA _ (keepC u e_a_2), keepA _ (keepC u e_a_3), keepA _ (keepC u e_a_4), keepA _ (keepC u e_a_5), keepA _ (keepC u e_a_6), keepA _ (keepC u e_a_7), keepA _ (keepC u e_a_8), keepA _ (keepC u e_a_9), keepA _ (keepC u e_a_10), keepA _ (keepC u e_y_0), keepA _ (keepC u e_y_1), keepA _ (keepC u r2), keepA _ (keepC u r3)⟩ | exact ⟨keepGr g6 Na (keepA _ (keepC u e_a_0)), keepGr g6 Na (keepA _ (keepC u e_a_1)), keepGr g6 Na (keepA _ (keepC u e_a_2)), keepGr g6 Na (keepA _ (keepC u e_a_3)), keepGr g6 Na (keepA _ (keepC u e_a_4)), keepGr g6 Na (keepA _ (keepC u e_a_5)), keepGr g6 Na (keepA _ (keepC u e_a_6)), keepGr g6 Na (keepA _ (keepC u e_a_7)), keepGr g6 Na (keepA _ (keepC u e_a_8)), keepGr g6 Na (keepA _ (keepC u e_a_9)), keepGr g6 Na (keepA _ (keepC u e_a_10)), keepGr g6 No (keepA _ (keepC u e_y_0)), keepGr g6 No (keepA _ (keepC u e_y_1)), keepGr g6 Ng (keepA _ (keepC u r2)), keepGr g6 Ng (keepA _ (keepC u r3))⟩ | go_keep)
            (first | (go_at_call 142; refine (CA1.out _).mono ?_; rintro e wz ⟨rfl, u⟩; have own2 := own'.below ((Below.refl _ _).drew.trans u); have SZ : WW.heap.size ≤ wz.heap.size := u.size) | (refine step_appT (by rfl) _ _ (by rfl) w2'.heap.size c5 1 d5 _ (by rfl) (by first | exact OwnF.alloc own2 _ | exact OwnF.drew (OwnF.alloc own2 _)) _ 1 1 [.int .i64 (seV1 a), .int .i64 (seT1 a)] (by rfl) (by first | exact (OwnC.lit wz wz.heap.size 1 81 2 [.int .i64 (seV1 a), .int .i64 (seT1 a)] (Nat.le_refl _) rfl (by simp [maxLen])).row | exact RowC.drew (OwnC.lit wz wz.heap.size 1 81 2 [.int .i64 (seV1 a), .int .i64 (seT1 a)] (Nat.le_refl _) rfl (by simp [maxLen])).row) (by simp [Value.oneCell']) (by omega) (by have := hb9.size; simp; omega) ?_; intro a6 c6 w6 o6 u6 g6 m6))
          have u9 := (Below.refl _ _).drew.trans u
          have hb8 := hb9.trans (u9.mono hb9.size)
          have hb7 := (hb8.alloc hb8.size _).trans (by first | exact u6 | exact (Below.refl _ _).drew.trans u6)
          clear u6 u u9 hb8 hb9 g6 m6 own' own2
          go_wp2
          go_roundw
          case rel => exact ⟨1 + 1, by omega, by go_num, hb7, a6, c6, rfl, o6⟩
          case measure => simp [intOf]
    · obtain rfl : k = 2 := by omega
      have own' : OwnF 2 eTagged wr w2'.heap.size c5 2 d5 [seV0 a, seT0 a, seV1 a, seT1 a] := own
      go_wp2
      go_ret
      exact ⟨_, _, rfl, own'.flat, VB.trans (hbel.mono SB)⟩
end Go.Proofs.YtlmdckcohoddnaaDoor
