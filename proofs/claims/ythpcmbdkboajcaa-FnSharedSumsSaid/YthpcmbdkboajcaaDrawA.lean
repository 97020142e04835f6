/- Draws of circuits over a field. -/
import Derived.Test.YthpcmbdkboajcaaCurB
import Derived.Test.YthpcmbdkboajcaaDrawC
import Derived.Test.YthpcmbdkboajcaaIsAr
import Derived.Test.YthpcmbdkboajcaaAppG
import Derived.Deep.DeepCutAuto
namespace Go.Proofs.Ythpcmbdkboajcaa
open Go.RowKit
theorem OwnF.cur {k e : Nat} {w1 w2 : World} {g b : Nat} {a : Option Addr} {n c : Nat} {l : List Int} (h : OwnF k e w1 b a n c l) (ho : Only [g] w1 w2) (hb : g < b) : OwnF k e w2 b a n c l :=
  h.only ho (fun q hq hq' => by have := (h.feet q hq).1; simp at hq'; omega)
theorem l1Least_same (a b : Int) (w : World) :
    Calls Try.prog 61 #[.int .i64 a, .int .i64 b] w fun e w' => e = .returned (.int .i64 (min a b)) ∧ w' = w := by
  by_cases h : a < b
  all_goals
    go_enter Try.func61, Try.ntmps61
    go_wp2
    go_ret
    exact ⟨ret_int (by omega), rfl⟩
/-- A drawn circuit: it reads as numbers. -/
def ArP (w : World) (g k : Nat) (e : Ending) (w' : World) : Prop := ∃ (P i0 i1 : Int) (ga : Option Addr) (gn gc : Nat) (G : List Int) (oa : Option Addr) (on oc : Nat) (O : List Int) (k' : Nat),
  e = .returned (.agg #[.int .i64 P, .int .i64 i0, .int .i64 i1, .slice ga gn gc, .slice oa on oc]) ∧ (2 ≤ P ∧ P ≤ 251) ∧ (0 ≤ i0 ∧ i0 ≤ 2) ∧ (0 ≤ i1 ∧ i1 ≤ 2) ∧ gn ≤ 7 ∧ on ≤ 3 ∧
  OwnF 3 eGate w' w.heap.size ga gn gc G ∧ Own w' w.heap.size oa on oc O ∧ Apart ga gc oa oc ∧ k' ≤ k + 100 ∧ Cur w' g k' ∧ Only [g] w w'
set_option maxHeartbeats 8000000 in
set_option maxRecDepth 100000 in
theorem arith_any (g k : Nat) (w : World) (h : Cur w g k) (hk : k ≤ 700000000000000) :
    Calls Try.prog 93 #[.pointer (some ⟨g, 0, none⟩)] w (ArP w g k) := by
  have hg := h.lt


  go_enter Try.func93, Try.ntmps93
  go_upto_region 1 with fail
  refine Exists.elim (Blk.new_ w (b := w.heap.size) rfl 41 #[.int .i64 0, .int .i64 0, .int .i64 0, .slice none 0 0, .slice none 0 0]) (fun w1' q => ?_)
  rw [q.1]; have B_r := q.2.1; have s_w1' := q.2.2.1; have u_w1' := q.2.2.2; clear q
  have C_w1' := h.below u_w1'
  have S_w1' : w.heap.size + 1 ≤ w1'.heap.size := Nat.le_of_eq s_w1'.symm
  have V_w1' := (Only.refl [g] w).trans (Only.of_below u_w1')
  clear u_w1' s_w1'
  go_wp2_with fail
  refine (among_r g _ [2, 3, 5, 7, 11, 101, 251] 2 251 _ C_w1' (by omega) (by decide) (by decide) (by decide)).mono ?_
  rintro e w2' ⟨P, k_w2', rfl, P0, P1, q_w2', C_w2', o_w2'⟩
  have V_w2' := V_w1'.trans o_w2'
  replace B_r := B_r.only o_w2' (by simp; omega)
  have S_w2' := o_w2'.size
  clear o_w2' V_w1'
  go_wp2_with fail
  refine (pick_any g _ 3 _ C_w2' (by omega)).mono ?_
  rintro e w3' ⟨i0, k_w3', rfl, x0, x1, x2, q_w3', C_w3', o_w3'⟩
  have V_w3' := V_w2'.trans o_w3'
  replace B_r := B_r.only o_w3' (by simp; omega)
  have S_w3' := o_w3'.size
  clear o_w3' V_w2'
  have i02 : i0 ≤ 2 := by omega
  clear x1 x2
  go_wp2_with fail
  refine (pick_any g _ 3 _ C_w3' (by omega)).mono ?_
  rintro e w4' ⟨i1, k_w4', rfl, y0, y1, y2, q_w4', C_w4', o_w4'⟩
  have V_w4' := V_w3'.trans o_w4'
  replace B_r := B_r.only o_w4' (by simp; omega)
  have S_w4' := o_w4'.size
  clear o_w4' V_w3'
  have i12 : i1 ≤ 2 := by omega
  clear y1 y2
  go_wp2_with fail
  refine Exists.elim (Blk.new_ w4' (b := w4'.heap.size) rfl 41 #[.int .i64 P, .int .i64 i0, .int .i64 i1, .slice none 0 0, .slice none 0 0]) (fun w5' q => ?_)
  rw [q.1]; have B_x := q.2.1; have s_w5' := q.2.2.1; have u_w5' := q.2.2.2; clear q
  replace B_r := B_r.below u_w5'
  have C_w5' := C_w4'.below u_w5'
  have S_w5' : w4'.heap.size + 1 ≤ w5'.heap.size := Nat.le_of_eq s_w5'.symm
  have V_w5' := V_w4'.trans (Only.of_below u_w5')
  clear u_w5' s_w5' V_w4'
  refine (pick_any g _ 8 _ C_w5' (by omega)).mono ?_
  rintro e w6' ⟨kk, k_w6', rfl, z0, z1, z2, q_w6', C_w6', o_w6'⟩
  have V_w6' := V_w5'.trans o_w6'
  replace B_r := B_r.only o_w6' (by simp; omega)
  replace B_x := B_x.only o_w6' (by simp; omega)
  have S_w6' := o_w6'.size
  clear o_w6' V_w5'
  have kk7 : kk ≤ 7 := by omega
  clear z1 z2
  obtain ⟨kk, rfl⟩ : ∃ n : Nat, kk = n := ⟨kk.toNat, by omega⟩
  generalize w4'.heap.size = bx at *
  have hbx : w.heap.size < bx := by omega
  have hgx : g < bx := by omega

  go_wp2
  go_loopw [4] (fun v wr => ∃ i : Nat, i ≤ kk ∧ v = .int .i64 ((kk : Int) - i) ∧ Only [g] w wr ∧ bx < wr.heap.size ∧ ∃ (ga : Option Addr) (gc : Nat) (G : List Int) (k' : Nat), Blk wr w.heap.size 41 #[.int .i64 0, .int .i64 0, .int .i64 0, .slice none 0 0, .slice none 0 0] ∧ Blk wr bx 41 #[.int .i64 P, .int .i64 i0, .int .i64 i1, .slice ga i gc, .slice none 0 0] ∧ OwnF 3 eGate wr (bx + 1) ga i gc G ∧ k' ≤ k + 10 + 10 * i ∧ Cur wr g k') (fun v _ => (intOf v).toNat)
  case atStart => exact ⟨0, Nat.zero_le _, by simp, V_w6', by omega, none, 0, [], _, B_r, B_x, OwnC.nil0 _ _ _ _ _, by omega, C_w6'⟩
  case round =>
    clear B_r B_x
    obtain ⟨i, hi, rfl, hO, hbw, ga, gc, G, k', B_r, B_x, og, hk', hc⟩ := hrel





    by_cases hlt : i < kk

    · have f1 : (kk : Int) - (i : Int) > 0 := by omega
      have e_x_0 : wr.cell? ⟨bx, 0, none⟩ = some (.int .i64 P) := B_x.cell 0
      have e_x_1 : wr.cell? ⟨bx, 1, none⟩ = some (.int .i64 i0) := B_x.cell 1
      have e_x_2 : wr.cell? ⟨bx, 2, none⟩ = some (.int .i64 i1) := B_x.cell 2
      have e_x_3 : wr.cell? ⟨bx, 3, none⟩ = some (.slice ga i gc) := B_x.cell 3
      have e_x_4 : wr.cell? ⟨bx, 4, none⟩ = some (.slice none 0 0) := B_x.cell 4
      go_wp2_with fail
      clear e_x_0 e_x_1 e_x_2 e_x_3 e_x_4
      refine (arWires_any P i0 i1 ga i gc (.slice none 0 0) wr rfl ⟨by omega, by omega⟩ ⟨by omega, by omega⟩ (by omega)).mono ?_
      rintro e w7' ⟨rfl, u_w7'⟩
      replace B_r := B_r.below u_w7'
      replace B_x := B_x.below u_w7'
      replace og := og.below u_w7'
      have C_w7' := hc.below u_w7'
      have S_w7' := u_w7'.size
      have V_w7' := hO.trans (Only.of_below u_w7')
      clear hO
      clear u_w7'
      generalize hN : i0 + i1 + (i : Int) = n
      have hn : 0 ≤ n ∧ n ≤ 11 := by omega
      clear hN
      go_wp2_with fail
      refine (pick_any g _ 4 _ C_w7' (by omega)).mono ?_
      rintro e w8' ⟨kd, k_w8', rfl, a0, a1, a2, q_w8', C_w8', o_w8'⟩
      have V_w8' := V_w7'.trans o_w8'
      replace og := og.cur o_w8' (by omega)
      replace B_r := B_r.only o_w8' (by simp; omega)
      replace B_x := B_x.only o_w8' (by simp; omega)
      have S_w8' := o_w8'.size
      clear o_w8' V_w7'
      clear a1 a2
      go_wp2_with fail
      refine (l1Most_any 1 n w8').mono ?_
      rintro e w9' ⟨rfl, q_w9'⟩
      have u_w9' := below_of_quiet q_w9'
      clear q_w9'
      replace B_r := B_r.below u_w9'
      replace B_x := B_x.below u_w9'
      replace og := og.below u_w9'
      have C_w9' := C_w8'.below u_w9'
      have S_w9' := u_w9'.size
      have V_w9' := V_w8'.trans (Only.of_below u_w9')
      clear V_w8'
      clear u_w9'
      go_wp2_with fail
      refine (pick_any g _ _ _ C_w9' (by omega)).mono ?_
      rintro e w10' ⟨ka, k_w10', rfl, b0, b1, b2, q_w10', C_w10', o_w10'⟩
      have V_w10' := V_w9'.trans o_w10'
      replace og := og.cur o_w10' (by omega)
      replace B_r := B_r.only o_w10' (by simp; omega)
      replace B_x := B_x.only o_w10' (by simp; omega)
      have S_w10' := o_w10'.size
      clear o_w10' V_w9'
      clear b1 b2
      go_wp2_with fail
      refine (l1Most_any 1 n w10').mono ?_
      rintro e w11' ⟨rfl, q_w11'⟩
      have u_w11' := below_of_quiet q_w11'
      clear q_w11'
      replace B_r := B_r.below u_w11'
      replace B_x := B_x.below u_w11'
      replace og := og.below u_w11'
      have C_w11' := C_w10'.below u_w11'
      have S_w11' := u_w11'.size
      have V_w11' := V_w10'.trans (Only.of_below u_w11')
      clear V_w10'
      clear u_w11'
      go_wp2_with fail
      refine (pick_any g _ _ _ C_w11' (by omega)).mono ?_
      rintro e w12' ⟨kb, k_w12', rfl, c0, c1, c2, q_w12', C_w12', o_w12'⟩
      have V_w12' := V_w11'.trans o_w12'
      replace og := og.cur o_w12' (by omega)
      replace B_r := B_r.only o_w12' (by simp; omega)
      replace B_x := B_x.only o_w12' (by simp; omega)
      have S_w12' := o_w12'.size
      clear o_w12' V_w11'
      clear c1 c2
      go_upto_region 7 with fail
      have Q_og := Lib.hid og.feet
      refine Exists.elim (Blk.new_ w12' (b := w12'.heap.size) rfl 78 #[.int .i64 kd, .int .i64 ka, .int .i64 kb]) (fun w13' q => ?_)
      rw [q.1]; have B_q := q.2.1; have s_w13' := q.2.2.1; have u_w13' := q.2.2.2; clear q
      replace B_r := B_r.below u_w13'
      replace B_x := B_x.below u_w13'
      replace og := og.below u_w13'
      have C_w13' := C_w12'.below u_w13'
      have S_w13' : w12'.heap.size + 1 ≤ w13'.heap.size := Nat.le_of_eq s_w13'.symm
      have V_w13' := V_w12'.trans (Only.of_below u_w13')
      clear u_w13' s_w13' V_w12'













































      by_cases h0 : n = 0

      · have e1 : ((n == 0) : Bool) = true := by simp [h0]
        clear h0
        have e9 : ((3 : Int) == 2) = false := rfl
        have e_x_0 : w13'.cell? ⟨bx, 0, none⟩ = some (.int .i64 P) := B_x.cell 0
        have e_x_1 : w13'.cell? ⟨bx, 1, none⟩ = some (.int .i64 i0) := B_x.cell 1
        have e_x_2 : w13'.cell? ⟨bx, 2, none⟩ = some (.int .i64 i1) := B_x.cell 2
        have e_x_3 : w13'.cell? ⟨bx, 3, none⟩ = some (.slice ga i gc) := B_x.cell 3
        have e_x_4 : w13'.cell? ⟨bx, 4, none⟩ = some (.slice none 0 0) := B_x.cell 4
        have e_q := B_q.all3
        go_wp2_with fail
        clear e_x_0 e_x_1 e_x_2 e_x_3 e_x_4 e_q
        refine (pick_any g _ _ _ C_w13' (by omega)).mono ?_
        rintro e w14' ⟨v, k_w14', rfl, v0, v1, v2, q_w14', C_w14', o_w14'⟩
        have V_w14' := V_w13'.trans o_w14'
        replace og := og.cur o_w14' (by omega)
        replace B_r := B_r.only o_w14' (by simp; omega)
        replace B_x := B_x.only o_w14' (by simp; omega)
        replace B_q := B_q.only o_w14' (by simp; omega)
        have S_w14' := o_w14'.size
        clear o_w14' V_w13'
        clear v1 v2
        have e_q := B_q.all3
        have f_q := B_q.frz3
        go_upto_region 11 with fail
        clear e_q f_q
        refine Exists.elim (B_q.row3 (.int .i64 3) (.int .i64 v) (.int .i64 0)) (fun w15' q => ?_)
        rw [q.1]; replace B_q := q.2.1; have G := q.2.2; clear q
        have V_w15' : Only [g] w w15' := (V_w14').thn G (fun q hq => Or.inl (by have := (V_w14').size; simp at hq; omega))
        have C_w15'_0 : Cur w15' g _ := C_w14'.only G (fun q hq => by simp at hq; omega)
        replace B_r := B_r.only G (by first | (simp; done) | (simp; omega))
        replace B_x := B_x.only G (by first | (simp; done) | (simp; omega))
        replace og := og.only G (fun q hq hq' => by have := Q_og.out q hq; simp at hq'; omega)
        have sG0 := G.size
        clear G
        clear V_w14'
        have S_w15' : w14'.heap.size + 0 ≤ w15'.heap.size := by omega
        clear sG0
        have e_x_0 : w15'.cell? ⟨bx, 0, none⟩ = some (.int .i64 P) := B_x.cell 0
        have f_x_0 := B_x.frozen 0
        have e_x_1 : w15'.cell? ⟨bx, 1, none⟩ = some (.int .i64 i0) := B_x.cell 1
        have f_x_1 := B_x.frozen 1
        have e_x_2 : w15'.cell? ⟨bx, 2, none⟩ = some (.int .i64 i1) := B_x.cell 2
        have f_x_2 := B_x.frozen 2
        have e_x_3 : w15'.cell? ⟨bx, 3, none⟩ = some (.slice ga i gc) := B_x.cell 3
        have f_x_3 := B_x.frozen 3
        have e_x_4 : w15'.cell? ⟨bx, 4, none⟩ = some (.slice none 0 0) := B_x.cell 4
        have f_x_4 := B_x.frozen 4
        have e_q := B_q.all3
        go_wp2_with (at_builtin; refine wpList_appG _ rfl _ _ rfl (bx + 1) ga i gc G rfl (og.alloc _) (some ⟨w15'.heap.size, 0, none⟩) 1 3 v 0 rfl (RowC.gate w15' 3 v 0 _) (by omega) (by simp; omega) ?_)
        clear e_x_0 f_x_0 e_x_1 f_x_1 e_x_2 f_x_2 e_x_3 f_x_3 e_x_4 f_x_4 e_q
        intro a5 c5 wA o5 g5 m5
        clear m5 Q_og
        have L := (Below.refl w15'.heap.size w15').alloc (Nat.le_refl _) (.cells #[.int .i64 3, .int .i64 v, .int .i64 0] 78)
        have G3 : Only (foot ga gc) (w15'.alloc (.cells #[.int .i64 3, .int .i64 v, .int .i64 0] 78)) wA := Only.of_grown g5
        have hf : ∀ q ∈ foot ga gc, bx < q := fun q hq => by have := (og.feet q hq).1; omega
        have BX := (B_x.below L).only G3 (by intro hm; have := hf _ hm; omega)
        have BR := (B_r.below L).only G3 (by intro hm; have := hf _ hm; omega)
        have C3 := (C_w15'_0.below L).only G3 (fun q hq => by have := hf q hq; omega)
        have O3 : Only [g] w wA := (V_w15'.trans (Only.of_below L)).thn G3 (fun q hq => Or.inl (by have := hf q hq; omega))
        have HS3 : bx < wA.heap.size := by have := L.size; have := G3.size; omega
        have Z : Only [bx] wA (wA.setCell ⟨bx, 3, none⟩ (.slice a5 (i + 1) c5)) := (Only.refl _ _).setCell ⟨bx, 3, none⟩ _ (by simp)
        have BX' : Blk (wA.setCell ⟨bx, 3, none⟩ (.slice a5 (i + 1) c5)) bx 41 #[.int .i64 P, .int .i64 i0, .int .i64 i1, .slice a5 (i + 1) c5, .slice none 0 0] := BX.set_ 3 (.slice a5 (i + 1) c5)
        have BR' := BR.only Z (by simp; omega)
        have o5' := o5.only Z (fun q hq hq' => by have := (o5.feet q hq).1; simp at hq'; omega)
        have C3' := C3.only Z (fun q hq => by simp at hq; omega)
        have O3' := O3.thn Z (fun q hq => Or.inl (by simp at hq; omega))
        have HS3' : bx < (wA.setCell ⟨bx, 3, none⟩ (.slice a5 (i + 1) c5)).heap.size := by have := Z.size; omega
        have HALL := Lib.hid (And.intro BX' (And.intro BR' (And.intro o5' (And.intro C3' (And.intro O3' HS3')))))
        have y3 := BX.cell 3
        have z3 := BX.frozen 3
        clear BX' BR' o5' C3' O3' HS3' Z BR C3 O3 G3 L hf og g5 o5
        go_wp2
        go_roundw
        case rel => exact ⟨i + 1, by omega, by go_num, HALL.out.2.2.2.2.1, HALL.out.2.2.2.2.2, a5, c5, _, _, HALL.out.2.1, HALL.out.1, HALL.out.2.2.1, by omega, HALL.out.2.2.2.1⟩
        case measure => simp [intOf]; omega

      · have e1 : ((n == 0) : Bool) = false := by simp [h0]
        clear h0
        by_cases h3 : kd = 3

        · have e2 : ((kd == 3) : Bool) = true := by simp [h3]
          clear h3
          have e9 : ((3 : Int) == 2) = false := rfl
          have e_x_0 : w13'.cell? ⟨bx, 0, none⟩ = some (.int .i64 P) := B_x.cell 0
          have e_x_1 : w13'.cell? ⟨bx, 1, none⟩ = some (.int .i64 i0) := B_x.cell 1
          have e_x_2 : w13'.cell? ⟨bx, 2, none⟩ = some (.int .i64 i1) := B_x.cell 2
          have e_x_3 : w13'.cell? ⟨bx, 3, none⟩ = some (.slice ga i gc) := B_x.cell 3
          have e_x_4 : w13'.cell? ⟨bx, 4, none⟩ = some (.slice none 0 0) := B_x.cell 4
          have e_q := B_q.all3
          go_wp2_with fail
          clear e_x_0 e_x_1 e_x_2 e_x_3 e_x_4 e_q
          refine (pick_any g _ _ _ C_w13' (by omega)).mono ?_
          rintro e w16' ⟨v, k_w16', rfl, v0, v1, v2, q_w16', C_w16', o_w16'⟩
          have V_w16' := V_w13'.trans o_w16'
          replace og := og.cur o_w16' (by omega)
          replace B_r := B_r.only o_w16' (by simp; omega)
          replace B_x := B_x.only o_w16' (by simp; omega)
          replace B_q := B_q.only o_w16' (by simp; omega)
          have S_w16' := o_w16'.size
          clear o_w16' V_w13'
          clear v1 v2
          have e_q := B_q.all3
          have f_q := B_q.frz3
          go_upto_region 11 with fail
          clear e_q f_q
          refine Exists.elim (B_q.row3 (.int .i64 3) (.int .i64 v) (.int .i64 0)) (fun w17' q => ?_)
          rw [q.1]; replace B_q := q.2.1; have G := q.2.2; clear q
          have V_w17' : Only [g] w w17' := (V_w16').thn G (fun q hq => Or.inl (by have := (V_w16').size; simp at hq; omega))
          have C_w17'_0 : Cur w17' g _ := C_w16'.only G (fun q hq => by simp at hq; omega)
          replace B_r := B_r.only G (by first | (simp; done) | (simp; omega))
          replace B_x := B_x.only G (by first | (simp; done) | (simp; omega))
          replace og := og.only G (fun q hq hq' => by have := Q_og.out q hq; simp at hq'; omega)
          have sG0 := G.size
          clear G
          clear V_w16'
          have S_w17' : w16'.heap.size + 0 ≤ w17'.heap.size := by omega
          clear sG0
          have e_x_0 : w17'.cell? ⟨bx, 0, none⟩ = some (.int .i64 P) := B_x.cell 0
          have f_x_0 := B_x.frozen 0
          have e_x_1 : w17'.cell? ⟨bx, 1, none⟩ = some (.int .i64 i0) := B_x.cell 1
          have f_x_1 := B_x.frozen 1
          have e_x_2 : w17'.cell? ⟨bx, 2, none⟩ = some (.int .i64 i1) := B_x.cell 2
          have f_x_2 := B_x.frozen 2
          have e_x_3 : w17'.cell? ⟨bx, 3, none⟩ = some (.slice ga i gc) := B_x.cell 3
          have f_x_3 := B_x.frozen 3
          have e_x_4 : w17'.cell? ⟨bx, 4, none⟩ = some (.slice none 0 0) := B_x.cell 4
          have f_x_4 := B_x.frozen 4
          have e_q := B_q.all3
          go_wp2_with (at_builtin; refine wpList_appG _ rfl _ _ rfl (bx + 1) ga i gc G rfl (og.alloc _) (some ⟨w17'.heap.size, 0, none⟩) 1 3 v 0 rfl (RowC.gate w17' 3 v 0 _) (by omega) (by simp; omega) ?_)
          clear e_x_0 f_x_0 e_x_1 f_x_1 e_x_2 f_x_2 e_x_3 f_x_3 e_x_4 f_x_4 e_q
          intro a5 c5 wA o5 g5 m5
          clear m5 Q_og
          have L := (Below.refl w17'.heap.size w17').alloc (Nat.le_refl _) (.cells #[.int .i64 3, .int .i64 v, .int .i64 0] 78)
          have G3 : Only (foot ga gc) (w17'.alloc (.cells #[.int .i64 3, .int .i64 v, .int .i64 0] 78)) wA := Only.of_grown g5
          have hf : ∀ q ∈ foot ga gc, bx < q := fun q hq => by have := (og.feet q hq).1; omega
          have BX := (B_x.below L).only G3 (by intro hm; have := hf _ hm; omega)
          have BR := (B_r.below L).only G3 (by intro hm; have := hf _ hm; omega)
          have C3 := (C_w17'_0.below L).only G3 (fun q hq => by have := hf q hq; omega)
          have O3 : Only [g] w wA := (V_w17'.trans (Only.of_below L)).thn G3 (fun q hq => Or.inl (by have := hf q hq; omega))
          have HS3 : bx < wA.heap.size := by have := L.size; have := G3.size; omega
          have Z : Only [bx] wA (wA.setCell ⟨bx, 3, none⟩ (.slice a5 (i + 1) c5)) := (Only.refl _ _).setCell ⟨bx, 3, none⟩ _ (by simp)
          have BX' : Blk (wA.setCell ⟨bx, 3, none⟩ (.slice a5 (i + 1) c5)) bx 41 #[.int .i64 P, .int .i64 i0, .int .i64 i1, .slice a5 (i + 1) c5, .slice none 0 0] := BX.set_ 3 (.slice a5 (i + 1) c5)
          have BR' := BR.only Z (by simp; omega)
          have o5' := o5.only Z (fun q hq hq' => by have := (o5.feet q hq).1; simp at hq'; omega)
          have C3' := C3.only Z (fun q hq => by simp at hq; omega)
          have O3' := O3.thn Z (fun q hq => Or.inl (by simp at hq; omega))
          have HS3' : bx < (wA.setCell ⟨bx, 3, none⟩ (.slice a5 (i + 1) c5)).heap.size := by have := Z.size; omega
          have HALL := Lib.hid (And.intro BX' (And.intro BR' (And.intro o5' (And.intro C3' (And.intro O3' HS3')))))
          have y3 := BX.cell 3
          have z3 := BX.frozen 3
          clear BX' BR' o5' C3' O3' HS3' Z BR C3 O3 G3 L hf og g5 o5
          go_wp2
          go_roundw
          case rel => exact ⟨i + 1, by omega, by go_num, HALL.out.2.2.2.2.1, HALL.out.2.2.2.2.2, a5, c5, _, _, HALL.out.2.1, HALL.out.1, HALL.out.2.2.1, by omega, HALL.out.2.2.2.1⟩
          case measure => simp [intOf]; omega

        · have e2 : ((kd == 3) : Bool) = false := by simp [h3]
          clear h3
          by_cases h2 : kd = 2

          · have e3 : ((kd == 2) : Bool) = true := by simp [h2]
            clear h2
            have e_x_0 : w13'.cell? ⟨bx, 0, none⟩ = some (.int .i64 P) := B_x.cell 0
            have e_x_1 : w13'.cell? ⟨bx, 1, none⟩ = some (.int .i64 i0) := B_x.cell 1
            have e_x_2 : w13'.cell? ⟨bx, 2, none⟩ = some (.int .i64 i1) := B_x.cell 2
            have e_x_3 : w13'.cell? ⟨bx, 3, none⟩ = some (.slice ga i gc) := B_x.cell 3
            have e_x_4 : w13'.cell? ⟨bx, 4, none⟩ = some (.slice none 0 0) := B_x.cell 4
            have e_q := B_q.all3
            go_wp2_with fail
            clear e_x_0 e_x_1 e_x_2 e_x_3 e_x_4 e_q
            refine (pick_any g _ _ _ C_w13' (by omega)).mono ?_
            rintro e w18' ⟨v, k_w18', rfl, v0, v1, v2, q_w18', C_w18', o_w18'⟩
            have V_w18' := V_w13'.trans o_w18'
            replace og := og.cur o_w18' (by omega)
            replace B_r := B_r.only o_w18' (by simp; omega)
            replace B_x := B_x.only o_w18' (by simp; omega)
            replace B_q := B_q.only o_w18' (by simp; omega)
            have S_w18' := o_w18'.size
            clear o_w18' V_w13'
            clear v1 v2
            have e_q := B_q.all3
            have f_q := B_q.frz3
            go_upto_region 11 with fail
            clear e_q f_q
            have g_1 : Only [w12'.heap.size] w18' (w18'.setCell ⟨w12'.heap.size, 2, none⟩ (.int .i64 v)) := (Only.refl _ _).setCell _ _ (by simp)
            replace B_q := B_q.set_ 2 (.int .i64 v)
            generalize w18'.setCell ⟨w12'.heap.size, 2, none⟩ (.int .i64 v) = w19' at *
            have G := g_1
            clear g_1
            simp only [List.setIfInBounds_toArray, List.set_cons_zero, List.set_cons_succ] at B_q
            have V_w19' : Only [g] w w19' := (V_w18').thn G (fun q hq => Or.inl (by have := (V_w18').size; simp at hq; omega))
            have C_w19'_0 : Cur w19' g _ := C_w18'.only G (fun q hq => by simp at hq; omega)
            replace B_r := B_r.only G (by first | (simp; done) | (simp; omega))
            replace B_x := B_x.only G (by first | (simp; done) | (simp; omega))
            replace og := og.only G (fun q hq hq' => by have := Q_og.out q hq; simp at hq'; omega)
            have sG0 := G.size
            clear G
            clear V_w18'
            have S_w19' : w18'.heap.size + 0 ≤ w19'.heap.size := by omega
            clear sG0
            have e_x_0 : w19'.cell? ⟨bx, 0, none⟩ = some (.int .i64 P) := B_x.cell 0
            have f_x_0 := B_x.frozen 0
            have e_x_1 : w19'.cell? ⟨bx, 1, none⟩ = some (.int .i64 i0) := B_x.cell 1
            have f_x_1 := B_x.frozen 1
            have e_x_2 : w19'.cell? ⟨bx, 2, none⟩ = some (.int .i64 i1) := B_x.cell 2
            have f_x_2 := B_x.frozen 2
            have e_x_3 : w19'.cell? ⟨bx, 3, none⟩ = some (.slice ga i gc) := B_x.cell 3
            have f_x_3 := B_x.frozen 3
            have e_x_4 : w19'.cell? ⟨bx, 4, none⟩ = some (.slice none 0 0) := B_x.cell 4
            have f_x_4 := B_x.frozen 4
            have e_q := B_q.all3
            go_wp2_with (at_builtin; refine wpList_appG _ rfl _ _ rfl (bx + 1) ga i gc G rfl (og.alloc _) (some ⟨w19'.heap.size, 0, none⟩) 1 kd ka v rfl (RowC.gate w19' kd ka v _) (by omega) (by simp; omega) ?_)
            clear e_x_0 f_x_0 e_x_1 f_x_1 e_x_2 f_x_2 e_x_3 f_x_3 e_x_4 f_x_4 e_q
            intro a5 c5 wA o5 g5 m5
            clear m5 Q_og
            have L := (Below.refl w19'.heap.size w19').alloc (Nat.le_refl _) (.cells #[.int .i64 kd, .int .i64 ka, .int .i64 v] 78)
            have G3 : Only (foot ga gc) (w19'.alloc (.cells #[.int .i64 kd, .int .i64 ka, .int .i64 v] 78)) wA := Only.of_grown g5
            have hf : ∀ q ∈ foot ga gc, bx < q := fun q hq => by have := (og.feet q hq).1; omega
            have BX := (B_x.below L).only G3 (by intro hm; have := hf _ hm; omega)
            have BR := (B_r.below L).only G3 (by intro hm; have := hf _ hm; omega)
            have C3 := (C_w19'_0.below L).only G3 (fun q hq => by have := hf q hq; omega)
            have O3 : Only [g] w wA := (V_w19'.trans (Only.of_below L)).thn G3 (fun q hq => Or.inl (by have := hf q hq; omega))
            have HS3 : bx < wA.heap.size := by have := L.size; have := G3.size; omega
            have Z : Only [bx] wA (wA.setCell ⟨bx, 3, none⟩ (.slice a5 (i + 1) c5)) := (Only.refl _ _).setCell ⟨bx, 3, none⟩ _ (by simp)
            have BX' : Blk (wA.setCell ⟨bx, 3, none⟩ (.slice a5 (i + 1) c5)) bx 41 #[.int .i64 P, .int .i64 i0, .int .i64 i1, .slice a5 (i + 1) c5, .slice none 0 0] := BX.set_ 3 (.slice a5 (i + 1) c5)
            have BR' := BR.only Z (by simp; omega)
            have o5' := o5.only Z (fun q hq hq' => by have := (o5.feet q hq).1; simp at hq'; omega)
            have C3' := C3.only Z (fun q hq => by simp at hq; omega)
            have O3' := O3.thn Z (fun q hq => Or.inl (by simp at hq; omega))
            have HS3' : bx < (wA.setCell ⟨bx, 3, none⟩ (.slice a5 (i + 1) c5)).heap.size := by have := Z.size; omega
            have HALL := Lib.hid (And.intro BX' (And.intro BR' (And.intro o5' (And.intro C3' (And.intro O3' HS3')))))
            have y3 := BX.cell 3
            have z3 := BX.frozen 3
            clear BX' BR' o5' C3' O3' HS3' Z BR C3 O3 G3 L hf og g5 o5
            go_wp2
            go_roundw
            case rel => exact ⟨i + 1, by omega, by go_num, HALL.out.2.2.2.2.1, HALL.out.2.2.2.2.2, a5, c5, _, _, HALL.out.2.1, HALL.out.1, HALL.out.2.2.1, by omega, HALL.out.2.2.2.1⟩
            case measure => simp [intOf]; omega

          · have e3 : ((kd == 2) : Bool) = false := by simp [h2]
            clear h2
            have e_x_0 : w13'.cell? ⟨bx, 0, none⟩ = some (.int .i64 P) := B_x.cell 0
            have e_x_1 : w13'.cell? ⟨bx, 1, none⟩ = some (.int .i64 i0) := B_x.cell 1
            have e_x_2 : w13'.cell? ⟨bx, 2, none⟩ = some (.int .i64 i1) := B_x.cell 2
            have e_x_3 : w13'.cell? ⟨bx, 3, none⟩ = some (.slice ga i gc) := B_x.cell 3
            have e_x_4 : w13'.cell? ⟨bx, 4, none⟩ = some (.slice none 0 0) := B_x.cell 4
            have e_q := B_q.all3
            go_upto_region 11 with fail
            clear e_x_0 e_x_1 e_x_2 e_x_3 e_x_4 e_q
            have e_x_0 : w13'.cell? ⟨bx, 0, none⟩ = some (.int .i64 P) := B_x.cell 0
            have f_x_0 := B_x.frozen 0
            have e_x_1 : w13'.cell? ⟨bx, 1, none⟩ = some (.int .i64 i0) := B_x.cell 1
            have f_x_1 := B_x.frozen 1
            have e_x_2 : w13'.cell? ⟨bx, 2, none⟩ = some (.int .i64 i1) := B_x.cell 2
            have f_x_2 := B_x.frozen 2
            have e_x_3 : w13'.cell? ⟨bx, 3, none⟩ = some (.slice ga i gc) := B_x.cell 3
            have f_x_3 := B_x.frozen 3
            have e_x_4 : w13'.cell? ⟨bx, 4, none⟩ = some (.slice none 0 0) := B_x.cell 4
            have f_x_4 := B_x.frozen 4
            have e_q := B_q.all3
            go_wp2_with (at_builtin; refine wpList_appG _ rfl _ _ rfl (bx + 1) ga i gc G rfl (og.alloc _) (some ⟨w13'.heap.size, 0, none⟩) 1 kd ka kb rfl (RowC.gate w13' kd ka kb _) (by omega) (by simp; omega) ?_)
            clear e_x_0 f_x_0 e_x_1 f_x_1 e_x_2 f_x_2 e_x_3 f_x_3 e_x_4 f_x_4 e_q
            intro a5 c5 wA o5 g5 m5
            clear m5 Q_og
            have L := (Below.refl w13'.heap.size w13').alloc (Nat.le_refl _) (.cells #[.int .i64 kd, .int .i64 ka, .int .i64 kb] 78)
            have G3 : Only (foot ga gc) (w13'.alloc (.cells #[.int .i64 kd, .int .i64 ka, .int .i64 kb] 78)) wA := Only.of_grown g5
            have hf : ∀ q ∈ foot ga gc, bx < q := fun q hq => by have := (og.feet q hq).1; omega
            have BX := (B_x.below L).only G3 (by intro hm; have := hf _ hm; omega)
            have BR := (B_r.below L).only G3 (by intro hm; have := hf _ hm; omega)
            have C3 := (C_w13'.below L).only G3 (fun q hq => by have := hf q hq; omega)
            have O3 : Only [g] w wA := (V_w13'.trans (Only.of_below L)).thn G3 (fun q hq => Or.inl (by have := hf q hq; omega))
            have HS3 : bx < wA.heap.size := by have := L.size; have := G3.size; omega
            have Z : Only [bx] wA (wA.setCell ⟨bx, 3, none⟩ (.slice a5 (i + 1) c5)) := (Only.refl _ _).setCell ⟨bx, 3, none⟩ _ (by simp)
            have BX' : Blk (wA.setCell ⟨bx, 3, none⟩ (.slice a5 (i + 1) c5)) bx 41 #[.int .i64 P, .int .i64 i0, .int .i64 i1, .slice a5 (i + 1) c5, .slice none 0 0] := BX.set_ 3 (.slice a5 (i + 1) c5)
            have BR' := BR.only Z (by simp; omega)
            have o5' := o5.only Z (fun q hq hq' => by have := (o5.feet q hq).1; simp at hq'; omega)
            have C3' := C3.only Z (fun q hq => by simp at hq; omega)
            have O3' := O3.thn Z (fun q hq => Or.inl (by simp at hq; omega))
            have HS3' : bx < (wA.setCell ⟨bx, 3, none⟩ (.slice a5 (i + 1) c5)).heap.size := by have := Z.size; omega
            have HALL := Lib.hid (And.intro BX' (And.intro BR' (And.intro o5' (And.intro C3' (And.intro O3' HS3')))))
            have y3 := BX.cell 3
            have z3 := BX.frozen 3
            clear BX' BR' o5' C3' O3' HS3' Z BR C3 O3 G3 L hf og g5 o5
            go_wp2
            go_roundw
            case rel => exact ⟨i + 1, by omega, by go_num, HALL.out.2.2.2.2.1, HALL.out.2.2.2.2.2, a5, c5, _, _, HALL.out.2.1, HALL.out.1, HALL.out.2.2.1, by omega, HALL.out.2.2.2.1⟩
            case measure => simp [intOf]; omega

    · have f2 : decide ((kk : Int) - (i : Int) > 0) = false := by simp; omega
      have hi7 : i ≤ 7 := by omega
      have e_x_0 : wr.cell? ⟨bx, 0, none⟩ = some (.int .i64 P) := B_x.cell 0
      have e_x_1 : wr.cell? ⟨bx, 1, none⟩ = some (.int .i64 i0) := B_x.cell 1
      have e_x_2 : wr.cell? ⟨bx, 2, none⟩ = some (.int .i64 i1) := B_x.cell 2
      have e_x_3 : wr.cell? ⟨bx, 3, none⟩ = some (.slice ga i gc) := B_x.cell 3
      have e_x_4 : wr.cell? ⟨bx, 4, none⟩ = some (.slice none 0 0) := B_x.cell 4
      go_wp2_with fail
      clear e_x_0 e_x_1 e_x_2 e_x_3 e_x_4
      refine (arWires_any P i0 i1 ga i gc (.slice none 0 0) wr rfl ⟨by omega, by omega⟩ ⟨by omega, by omega⟩ (by omega)).mono ?_
      rintro e w20' ⟨rfl, u_w20'⟩
      replace B_r := B_r.below u_w20'
      replace B_x := B_x.below u_w20'
      replace og := og.below u_w20'
      have C_w20' := hc.below u_w20'
      have S_w20' := u_w20'.size
      have V_w20' := hO.trans (Only.of_below u_w20')
      clear hO
      clear u_w20'
      clear f2
      generalize hN : i0 + i1 + (i : Int) = n
      have hn : 0 ≤ n ∧ n ≤ 11 := by omega
      clear hN
      by_cases h0 : n > 0

      · go_wp2_with fail
        refine (pick_any g _ 3 _ C_w20' (by omega)).mono ?_
        rintro e w21' ⟨m, k_w21', rfl, a0, a1, a2, q_w21', C_w21', o_w21'⟩
        have V_w21' := V_w20'.trans o_w21'
        replace og := og.cur o_w21' (by omega)
        replace B_r := B_r.only o_w21' (by simp; omega)
        replace B_x := B_x.only o_w21' (by simp; omega)
        have S_w21' := o_w21'.size
        clear o_w21' V_w20'
        obtain ⟨m, rfl⟩ : ∃ q : Nat, m = q := ⟨m.toNat, by omega⟩
        have hm2 : m ≤ 2 := by omega
        clear a1 a2
        have hgB : ∀ q ∈ foot ga gc, q < w21'.heap.size := fun q hq => (og.feet q hq).2
        have hbB : bx < w21'.heap.size := by omega
        obtain ⟨B2, hB2⟩ : ∃ B2, w21'.heap.size = B2 := ⟨_, rfl⟩
        rw [hB2] at hgB hbB
        have HB2E := Lib.hid hB2
        clear hB2
        have HGB := Lib.hid hgB
        clear hgB
        obtain ⟨wo, rfl⟩ : ∃ wo, wo = wr := ⟨_, rfl⟩
        go_wp2
        go_loopw [8] (fun v wq => ∃ j : Nat, j ≤ m + 1 ∧ v = .int .i64 (1 + (m : Int) - j) ∧ Only [g] w wq ∧ B2 ≤ wq.heap.size ∧ ∃ (oa : Option Addr) (oc : Nat) (O : List Int) (k' : Nat), Blk wq w.heap.size 41 #[.int .i64 0, .int .i64 0, .int .i64 0, .slice none 0 0, .slice none 0 0] ∧ Blk wq bx 41 #[.int .i64 P, .int .i64 i0, .int .i64 i1, .slice ga i gc, .slice oa j oc] ∧ OwnF 3 eGate wq (bx + 1) ga i gc G ∧ Own wq B2 oa j oc O ∧ k' ≤ k + 82 + 2 * j ∧ Cur wq g k') (fun v _ => (intOf v).toNat)
        case atStart => exact ⟨0, Nat.zero_le _, by simp, V_w21', by have := HB2E.out; omega, none, 0, [], _, B_r, B_x, og, Own.nil0 _ _ _, by omega, C_w21'⟩
        case round =>
          clear B_r B_x og
          obtain ⟨j, hj, rfl, hO2, hbw2, oa, oc, O, k2, B_r, B_x, og, oo, hk2, hc2⟩ := hrel
          have HB2 := Lib.hid (And.intro hbB HGB.out)





          by_cases hlt : j < m + 1

          · have f1 : 1 + (m : Int) - (j : Int) > 0 := by omega
            have hj3 : j ≤ 2 := by omega
            have hbx2 : bx < wr.heap.size := by omega
            have hgB2 : g < B2 := by omega
            have x4 := B_x.cell 4
            have wn : IntKind.i64.wrap (n - 1) = n - 1 := IntWalk.i64_in _ (by omega)
            go_upto_region 17 with fail
            have x4 := B_x.cell 4
            have x41 : wr.drew.cell? ⟨bx, 4, none⟩ = some (.slice oa j oc) := x4
            refine wp_region_noPanic ?_
            refine wp_region_held_drew (S := (fun _ => True)) (by kernel_rfl) ?hS1 (fun hHeld => ?go1)
            case hS1 => trivial
            refine tk (i := 0) (oi := ⟨some 75, _, _, _, _, _⟩) (v := ?v0_2) hHeld rfl ?y0_2 ?r0_2
            case y0_2 => (intro w _; first | (go_simp; done) | (go_simp; with_reducible rfl) | (with_reducible rfl))
            (try simp only [pt_])
            refine tk (i := 2) (oi := ⟨some 77, _, _, _, _, _⟩) (v := ?v2_3) hHeld rfl ?y2_3 ?r2_3
            case y2_3 => (intro w _; first | (go_simp; done) | (go_simp; with_reducible rfl) | (with_reducible rfl))
            (try simp only [pt_])
            refine tk (i := 3) (oi := ⟨some 78, _, _, _, _, _⟩) (v := ?v3_4) hHeld rfl ?y3_4 ?r3_4
            case y3_4 => (intro w _; first | (go_simp; done) | (go_simp; with_reducible rfl) | (with_reducible rfl))
            (try simp only [pt_])
            refine tk (i := 4) (oi := ⟨some 79, _, _, _, _, _⟩) (v := ?v4_5) hHeld rfl ?y4_5 ?r4_5
            case y4_5 => (intro w _; first | (go_simp; done) | (go_simp; with_reducible rfl) | (with_reducible rfl))
            (try simp only [pt_])
            refine tk (i := 5) (oi := ⟨some 80, _, _, _, _, _⟩) (v := ?v5_6) hHeld rfl ?y5_6 ?r5_6
            case y5_6 => (intro w _; first | (go_simp; done) | (go_simp; with_reducible rfl) | (with_reducible rfl))
            (try simp only [pt_])
            refine wpAnyH_ready (rs := [1, 6]) (by kernel_rfl) (by simp) ?_
            refine AllReadyH.cons (o := { dst := some 76, op := _, type := _, pos := _, after := _, guard := _ }) rfl (fun K hK => ?_) ?_
            go_simp
            refine hK.out _ _ ?_ (fun hHeld => ?_)
            · trivial
            clear hK K
            (try simp only [pt_])
            refine wpAnyH_ready (rs := [6]) (by kernel_rfl) (by simp) ?_
            refine AllReadyH.cons (o := { dst := some 81, op := _, type := _, pos := _, after := _, guard := _ }) rfl (fun K hK => ?_) ?_
            go_simp
            refine (l1Least_same _ _ _).mono ?_
            rintro e wl ⟨rfl, rfl⟩
            refine hK.out _ _ ?_ (fun hHeld => ?_)
            · trivial
            clear hK K
            (try simp only [pt_])
            refine wpAnyH_ready (rs := [7]) (by kernel_rfl) (by simp) ?_
            refine AllReadyH.cons (o := { dst := some 82, op := _, type := _, pos := _, after := _, guard := _ }) rfl (fun K hK => ?_) ?_
            go_simp
            refine (pick_any g _ _ _ hc2.drew (by omega)).mono ?_
            rintro e wp ⟨v, k3, rfl, v0, v1, v2, q3, c3, o3⟩
            clear v1
            have wx : IntKind.i64.wrap (n - 1 - v) = n - 1 - v := IntWalk.i64_in _ (by omega)
            have bx2 := (Blk.drew B_x).only o3 (by simp; omega)
            have br2 := (Blk.drew B_r).only o3 (by simp; omega)
            have og2 := og.drew.cur o3 (by omega)
            have oo2 := oo.drew.cur o3 (by omega)
            have hO3 : Only [g] w wp := (hO2.trans (Only.of_below ((Below.refl _ _).drew))).trans o3
            have hs3 : wr.heap.size ≤ wp.heap.size := Nat.le_trans (by simp) o3.size
            have x42 := bx2.cell 4
            have x43 : (wp.alloc (.cells #[.int .i64 (n - 1 - v)] 3)).cell? ⟨bx, 4, none⟩ = some (.slice oa j oc) := keepA _ x42
            clear o3
            refine hK.out _ _ ?_ (fun hHeld => ?_)
            · trivial
            clear hK K
            (try simp only [pt_])
            refine tk (i := 8) (oi := ⟨some 83, _, _, _, _, _⟩) (v := ?v8_7) hHeld rfl ?y8_7 ?r8_7
            case y8_7 => (intro w _; first | (go_simp; done) | (go_simp; with_reducible rfl) | (with_reducible rfl))
            (try simp only [pt_])
            refine wpAnyH_ready (rs := [9]) (by kernel_rfl) (by simp) ?_
            refine AllReadyH.cons (o := { dst := some 84, op := _, type := _, pos := _, after := _, guard := _ }) rfl (fun K hK => ?_) ?_
            go_simp
            refine hK.out _ _ ?_ (fun hHeld => ?_)
            · trivial
            clear hK K
            (try simp only [pt_])
            refine wpAnyH_ready (rs := [10]) (by kernel_rfl) (by simp) ?_
            refine AllReadyH.cons (o := { dst := some 85, op := _, type := _, pos := _, after := _, guard := _ }) rfl (fun K hK => ?_) ?_
            refine step_appI _ (by rfl) _ _ (by rfl) B2 oa j oc O (by rfl) (oo2.alloc _) _ 1 1 [n - 1 - v] (by rfl) (Ints.lit1 _ _ _) (by omega) (Nat.le_trans (Nat.le_trans hbw2 hs3) (by simp)) ?_
            intro a5 c5 wA o5 u5 g5 hold5
            clear hold5 u5
            have L := (Below.refl wp.heap.size wp).alloc (Nat.le_refl _) (.cells #[.int .i64 (n - 1 - v)] 3)
            have G3 : Only (foot oa oc) (wp.alloc (.cells #[.int .i64 (n - 1 - v)] 3)) wA := Only.of_grown g5
            have hf : ∀ q ∈ foot oa oc, B2 ≤ q := fun q hq => (oo2.feet q hq).1
            have BX := (bx2.below L).only G3 (by intro hm; have := hf _ hm; omega)
            have BR := (br2.below L).only G3 (by intro hm; have := hf _ hm; omega)
            have OG := (og2.below L).only G3 (fun q hq hq' => by have := HGB.out q hq; have := hf q hq'; omega)
            have C3 := (c3.below L).only G3 (fun q hq => by have := hf q hq; omega)
            have O3 : Only [g] w wA := (hO3.trans (Only.of_below L)).thn G3 (fun q hq => Or.inl (by have := hf q hq; omega))
            have HS3 : B2 ≤ wA.heap.size := by have := L.size; have := G3.size; omega
            have Z : Only [bx] wA (wA.setCell ⟨bx, 4, none⟩ (.slice a5 (j + 1) c5)) := (Only.refl _ _).setCell ⟨bx, 4, none⟩ _ (by simp)
            have BX' : Blk (wA.setCell ⟨bx, 4, none⟩ (.slice a5 (j + 1) c5)) bx 41 #[.int .i64 P, .int .i64 i0, .int .i64 i1, .slice ga i gc, .slice a5 (j + 1) c5] := BX.set_ 4 (.slice a5 (j + 1) c5)
            have BR' := BR.only Z (by simp; omega)
            have OG' := OG.only Z (fun q hq hq' => by have := (OG.feet q hq).1; simp at hq'; omega)
            have o5' := o5.only Z (fun q hq hq' => by have := (o5.feet q hq).1; simp at hq'; omega)
            have C3' := C3.only Z (fun q hq => by simp at hq; omega)
            have O3' := O3.thn Z (fun q hq => Or.inl (by simp at hq; omega))
            have HS3' : B2 ≤ (wA.setCell ⟨bx, 4, none⟩ (.slice a5 (j + 1) c5)).heap.size := by have := Z.size; omega
            have HALL := Lib.hid (And.intro BX' (And.intro BR' (And.intro OG' (And.intro o5' (And.intro C3' (And.intro O3' HS3'))))))
            have y4 := BX.cell 4
            have z4 := BX.frozen 4
            clear BX' BR' OG' o5' C3' O3' HS3' Z BR OG C3 O3 G3 L hf o5 g5
            refine hK.out _ _ ?_ (fun hHeld => ?_)
            · trivial
            clear hK K
            (try simp only [pt_])
            refine tk (i := 11) (oi := ⟨some 86, _, _, _, _, _⟩) (v := ?v11_8) hHeld rfl ?y11_8 ?r11_8
            case y11_8 => (intro w _; first | (go_simp; done) | (go_simp; with_reducible rfl) | (with_reducible rfl))
            (try simp only [pt_])
            refine wpAnyH_ready (rs := [12]) (by kernel_rfl) (by simp) ?_
            refine AllReadyH.cons (o := { dst := none, op := _, type := _, pos := _, after := _, guard := _ }) rfl (fun K hK => ?_) ?_
            go_simp
            refine hK.out _ _ ?_ (fun hHeld => ?_)
            · trivial
            clear hK K
            (try simp only [pt_])
            refine wpAnyH_done (by kernel_rfl) ?_ _
            refine NoPanic.normal ?_
            rotate_left 1
            exact AllReadyH.nil
            exact AllReadyH.nil
            exact AllReadyH.nil
            exact AllReadyH.nil
            exact AllReadyH.nil
            refine AllReadyH.cons (o := { dst := some 81, op := _, type := _, pos := _, after := _, guard := _ }) rfl (fun K hK => ?_) ?_
            go_simp
            refine (l1Least_same _ _ _).mono ?_
            rintro e wl ⟨rfl, rfl⟩
            refine hK.out _ _ ?_ (fun hHeld => ?_)
            · trivial
            clear hK K
            (try simp only [pt_])
            refine wpAnyH_ready (rs := [1, 7]) (by kernel_rfl) (by simp) ?_
            refine AllReadyH.cons (o := { dst := some 76, op := _, type := _, pos := _, after := _, guard := _ }) rfl (fun K hK => ?_) ?_
            go_simp
            refine hK.out _ _ ?_ (fun hHeld => ?_)
            · trivial
            clear hK K
            (try simp only [pt_])
            refine wpAnyH_ready (rs := [7]) (by kernel_rfl) (by simp) ?_
            refine AllReadyH.cons (o := { dst := some 82, op := _, type := _, pos := _, after := _, guard := _ }) rfl (fun K hK => ?_) ?_
            go_simp
            refine (pick_any g _ _ _ hc2.drew (by omega)).mono ?_
            rintro e wp ⟨v, k3, rfl, v0, v1, v2, q3, c3, o3⟩
            clear v1
            have wx : IntKind.i64.wrap (n - 1 - v) = n - 1 - v := IntWalk.i64_in _ (by omega)
            have bx2 := (Blk.drew B_x).only o3 (by simp; omega)
            have br2 := (Blk.drew B_r).only o3 (by simp; omega)
            have og2 := og.drew.cur o3 (by omega)
            have oo2 := oo.drew.cur o3 (by omega)
            have hO3 : Only [g] w wp := (hO2.trans (Only.of_below ((Below.refl _ _).drew))).trans o3
            have hs3 : wr.heap.size ≤ wp.heap.size := Nat.le_trans (by simp) o3.size
            have x42 := bx2.cell 4
            have x43 : (wp.alloc (.cells #[.int .i64 (n - 1 - v)] 3)).cell? ⟨bx, 4, none⟩ = some (.slice oa j oc) := keepA _ x42
            clear o3
            refine hK.out _ _ ?_ (fun hHeld => ?_)
            · trivial
            clear hK K
            (try simp only [pt_])
            refine tk (i := 8) (oi := ⟨some 83, _, _, _, _, _⟩) (v := ?v8_9) hHeld rfl ?y8_9 ?r8_9
            case y8_9 => (intro w _; first | (go_simp; done) | (go_simp; with_reducible rfl) | (with_reducible rfl))
            (try simp only [pt_])
            refine wpAnyH_ready (rs := [9]) (by kernel_rfl) (by simp) ?_
            refine AllReadyH.cons (o := { dst := some 84, op := _, type := _, pos := _, after := _, guard := _ }) rfl (fun K hK => ?_) ?_
            go_simp
            refine hK.out _ _ ?_ (fun hHeld => ?_)
            · trivial
            clear hK K
            (try simp only [pt_])
            refine wpAnyH_ready (rs := [10]) (by kernel_rfl) (by simp) ?_
            refine AllReadyH.cons (o := { dst := some 85, op := _, type := _, pos := _, after := _, guard := _ }) rfl (fun K hK => ?_) ?_
            refine step_appI _ (by rfl) _ _ (by rfl) B2 oa j oc O (by rfl) (oo2.alloc _) _ 1 1 [n - 1 - v] (by rfl) (Ints.lit1 _ _ _) (by omega) (Nat.le_trans (Nat.le_trans hbw2 hs3) (by simp)) ?_
            intro a5 c5 wA o5 u5 g5 hold5
            clear hold5 u5
            have L := (Below.refl wp.heap.size wp).alloc (Nat.le_refl _) (.cells #[.int .i64 (n - 1 - v)] 3)
            have G3 : Only (foot oa oc) (wp.alloc (.cells #[.int .i64 (n - 1 - v)] 3)) wA := Only.of_grown g5
            have hf : ∀ q ∈ foot oa oc, B2 ≤ q := fun q hq => (oo2.feet q hq).1
            have BX := (bx2.below L).only G3 (by intro hm; have := hf _ hm; omega)
            have BR := (br2.below L).only G3 (by intro hm; have := hf _ hm; omega)
            have OG := (og2.below L).only G3 (fun q hq hq' => by have := HGB.out q hq; have := hf q hq'; omega)
            have C3 := (c3.below L).only G3 (fun q hq => by have := hf q hq; omega)
            have O3 : Only [g] w wA := (hO3.trans (Only.of_below L)).thn G3 (fun q hq => Or.inl (by have := hf q hq; omega))
            have HS3 : B2 ≤ wA.heap.size := by have := L.size; have := G3.size; omega
            have Z : Only [bx] wA (wA.setCell ⟨bx, 4, none⟩ (.slice a5 (j + 1) c5)) := (Only.refl _ _).setCell ⟨bx, 4, none⟩ _ (by simp)
            have BX' : Blk (wA.setCell ⟨bx, 4, none⟩ (.slice a5 (j + 1) c5)) bx 41 #[.int .i64 P, .int .i64 i0, .int .i64 i1, .slice ga i gc, .slice a5 (j + 1) c5] := BX.set_ 4 (.slice a5 (j + 1) c5)
            have BR' := BR.only Z (by simp; omega)
            have OG' := OG.only Z (fun q hq hq' => by have := (OG.feet q hq).1; simp at hq'; omega)
            have o5' := o5.only Z (fun q hq hq' => by have := (o5.feet q hq).1; simp at hq'; omega)
            have C3' := C3.only Z (fun q hq => by simp at hq; omega)
            have O3' := O3.thn Z (fun q hq => Or.inl (by simp at hq; omega))
            have HS3' : B2 ≤ (wA.setCell ⟨bx, 4, none⟩ (.slice a5 (j + 1) c5)).heap.size := by have := Z.size; omega
            have HALL := Lib.hid (And.intro BX' (And.intro BR' (And.intro OG' (And.intro o5' (And.intro C3' (And.intro O3' HS3'))))))
            have y4 := BX.cell 4
            have z4 := BX.frozen 4
            clear BX' BR' OG' o5' C3' O3' HS3' Z BR OG C3 O3 G3 L hf o5 g5
            refine hK.out _ _ ?_ (fun hHeld => ?_)
            · trivial
            clear hK K
            (try simp only [pt_])
            refine tk (i := 11) (oi := ⟨some 86, _, _, _, _, _⟩) (v := ?v11_10) hHeld rfl ?y11_10 ?r11_10
            case y11_10 => (intro w _; first | (go_simp; done) | (go_simp; with_reducible rfl) | (with_reducible rfl))
            (try simp only [pt_])
            refine wpAnyH_ready (rs := [12]) (by kernel_rfl) (by simp) ?_
            refine AllReadyH.cons (o := { dst := none, op := _, type := _, pos := _, after := _, guard := _ }) rfl (fun K hK => ?_) ?_
            go_simp
            refine hK.out _ _ ?_ (fun hHeld => ?_)
            · trivial
            clear hK K
            (try simp only [pt_])
            refine wpAnyH_done (by kernel_rfl) ?_ _
            refine NoPanic.normal ?_
            rotate_left 1
            exact AllReadyH.nil
            exact AllReadyH.nil
            exact AllReadyH.nil
            exact AllReadyH.nil
            refine AllReadyH.cons (o := { dst := some 82, op := _, type := _, pos := _, after := _, guard := _ }) rfl (fun K hK => ?_) ?_
            go_simp
            refine (pick_any g _ _ _ hc2.drew (by omega)).mono ?_
            rintro e wp ⟨v, k3, rfl, v0, v1, v2, q3, c3, o3⟩
            clear v1
            have wx : IntKind.i64.wrap (n - 1 - v) = n - 1 - v := IntWalk.i64_in _ (by omega)
            have bx2 := (Blk.drew B_x).only o3 (by simp; omega)
            have br2 := (Blk.drew B_r).only o3 (by simp; omega)
            have og2 := og.drew.cur o3 (by omega)
            have oo2 := oo.drew.cur o3 (by omega)
            have hO3 : Only [g] w wp := (hO2.trans (Only.of_below ((Below.refl _ _).drew))).trans o3
            have hs3 : wr.heap.size ≤ wp.heap.size := Nat.le_trans (by simp) o3.size
            have x42 := bx2.cell 4
            have x43 : (wp.alloc (.cells #[.int .i64 (n - 1 - v)] 3)).cell? ⟨bx, 4, none⟩ = some (.slice oa j oc) := keepA _ x42
            clear o3
            refine hK.out _ _ ?_ (fun hHeld => ?_)
            · trivial
            clear hK K
            (try simp only [pt_])
            refine tk (i := 8) (oi := ⟨some 83, _, _, _, _, _⟩) (v := ?v8_11) hHeld rfl ?y8_11 ?r8_11
            case y8_11 => (intro w _; first | (go_simp; done) | (go_simp; with_reducible rfl) | (with_reducible rfl))
            (try simp only [pt_])
            refine wpAnyH_ready (rs := [1, 9]) (by kernel_rfl) (by simp) ?_
            refine AllReadyH.cons (o := { dst := some 76, op := _, type := _, pos := _, after := _, guard := _ }) rfl (fun K hK => ?_) ?_
            go_simp
            refine hK.out _ _ ?_ (fun hHeld => ?_)
            · trivial
            clear hK K
            (try simp only [pt_])
            refine wpAnyH_ready (rs := [9]) (by kernel_rfl) (by simp) ?_
            refine AllReadyH.cons (o := { dst := some 84, op := _, type := _, pos := _, after := _, guard := _ }) rfl (fun K hK => ?_) ?_
            go_simp
            refine hK.out _ _ ?_ (fun hHeld => ?_)
            · trivial
            clear hK K
            (try simp only [pt_])
            refine wpAnyH_ready (rs := [10]) (by kernel_rfl) (by simp) ?_
            refine AllReadyH.cons (o := { dst := some 85, op := _, type := _, pos := _, after := _, guard := _ }) rfl (fun K hK => ?_) ?_
            refine step_appI _ (by rfl) _ _ (by rfl) B2 oa j oc O (by rfl) (oo2.alloc _) _ 1 1 [n - 1 - v] (by rfl) (Ints.lit1 _ _ _) (by omega) (Nat.le_trans (Nat.le_trans hbw2 hs3) (by simp)) ?_
            intro a5 c5 wA o5 u5 g5 hold5
            clear hold5 u5
            have L := (Below.refl wp.heap.size wp).alloc (Nat.le_refl _) (.cells #[.int .i64 (n - 1 - v)] 3)
            have G3 : Only (foot oa oc) (wp.alloc (.cells #[.int .i64 (n - 1 - v)] 3)) wA := Only.of_grown g5
            have hf : ∀ q ∈ foot oa oc, B2 ≤ q := fun q hq => (oo2.feet q hq).1
            have BX := (bx2.below L).only G3 (by intro hm; have := hf _ hm; omega)
            have BR := (br2.below L).only G3 (by intro hm; have := hf _ hm; omega)
            have OG := (og2.below L).only G3 (fun q hq hq' => by have := HGB.out q hq; have := hf q hq'; omega)
            have C3 := (c3.below L).only G3 (fun q hq => by have := hf q hq; omega)
            have O3 : Only [g] w wA := (hO3.trans (Only.of_below L)).thn G3 (fun q hq => Or.inl (by have := hf q hq; omega))
            have HS3 : B2 ≤ wA.heap.size := by have := L.size; have := G3.size; omega
            have Z : Only [bx] wA (wA.setCell ⟨bx, 4, none⟩ (.slice a5 (j + 1) c5)) := (Only.refl _ _).setCell ⟨bx, 4, none⟩ _ (by simp)
            have BX' : Blk (wA.setCell ⟨bx, 4, none⟩ (.slice a5 (j + 1) c5)) bx 41 #[.int .i64 P, .int .i64 i0, .int .i64 i1, .slice ga i gc, .slice a5 (j + 1) c5] := BX.set_ 4 (.slice a5 (j + 1) c5)
            have BR' := BR.only Z (by simp; omega)
            have OG' := OG.only Z (fun q hq hq' => by have := (OG.feet q hq).1; simp at hq'; omega)
            have o5' := o5.only Z (fun q hq hq' => by have := (o5.feet q hq).1; simp at hq'; omega)
            have C3' := C3.only Z (fun q hq => by simp at hq; omega)
            have O3' := O3.thn Z (fun q hq => Or.inl (by simp at hq; omega))
            have HS3' : B2 ≤ (wA.setCell ⟨bx, 4, none⟩ (.slice a5 (j + 1) c5)).heap.size := by have := Z.size; omega
            have HALL := Lib.hid (And.intro BX' (And.intro BR' (And.intro OG' (And.intro o5' (And.intro C3' (And.intro O3' HS3'))))))
            have y4 := BX.cell 4
            have z4 := BX.frozen 4
            clear BX' BR' OG' o5' C3' O3' HS3' Z BR OG C3 O3 G3 L hf o5 g5
            refine hK.out _ _ ?_ (fun hHeld => ?_)
            · trivial
            clear hK K
            (try simp only [pt_])
            refine tk (i := 11) (oi := ⟨some 86, _, _, _, _, _⟩) (v := ?v11_12) hHeld rfl ?y11_12 ?r11_12
            case y11_12 => (intro w _; first | (go_simp; done) | (go_simp; with_reducible rfl) | (with_reducible rfl))
            (try simp only [pt_])
            refine wpAnyH_ready (rs := [12]) (by kernel_rfl) (by simp) ?_
            refine AllReadyH.cons (o := { dst := none, op := _, type := _, pos := _, after := _, guard := _ }) rfl (fun K hK => ?_) ?_
            go_simp
            refine hK.out _ _ ?_ (fun hHeld => ?_)
            · trivial
            clear hK K
            (try simp only [pt_])
            refine wpAnyH_done (by kernel_rfl) ?_ _
            refine NoPanic.normal ?_
            rotate_left 1
            exact AllReadyH.nil
            exact AllReadyH.nil
            exact AllReadyH.nil
            refine AllReadyH.cons (o := { dst := some 84, op := _, type := _, pos := _, after := _, guard := _ }) rfl (fun K hK => ?_) ?_
            go_simp
            refine hK.out _ _ ?_ (fun hHeld => ?_)
            · trivial
            clear hK K
            (try simp only [pt_])
            refine wpAnyH_ready (rs := [1]) (by kernel_rfl) (by simp) ?_
            refine AllReadyH.cons (o := { dst := some 76, op := _, type := _, pos := _, after := _, guard := _ }) rfl (fun K hK => ?_) ?_
            go_simp
            refine hK.out _ _ ?_ (fun hHeld => ?_)
            · trivial
            clear hK K
            (try simp only [pt_])
            refine wpAnyH_ready (rs := [10]) (by kernel_rfl) (by simp) ?_
            refine AllReadyH.cons (o := { dst := some 85, op := _, type := _, pos := _, after := _, guard := _ }) rfl (fun K hK => ?_) ?_
            refine step_appI _ (by rfl) _ _ (by rfl) B2 oa j oc O (by rfl) (oo2.alloc _) _ 1 1 [n - 1 - v] (by rfl) (Ints.lit1 _ _ _) (by omega) (Nat.le_trans (Nat.le_trans hbw2 hs3) (by simp)) ?_
            intro a5 c5 wA o5 u5 g5 hold5
            clear hold5 u5
            have L := (Below.refl wp.heap.size wp).alloc (Nat.le_refl _) (.cells #[.int .i64 (n - 1 - v)] 3)
            have G3 : Only (foot oa oc) (wp.alloc (.cells #[.int .i64 (n - 1 - v)] 3)) wA := Only.of_grown g5
            have hf : ∀ q ∈ foot oa oc, B2 ≤ q := fun q hq => (oo2.feet q hq).1
            have BX := (bx2.below L).only G3 (by intro hm; have := hf _ hm; omega)
            have BR := (br2.below L).only G3 (by intro hm; have := hf _ hm; omega)
            have OG := (og2.below L).only G3 (fun q hq hq' => by have := HGB.out q hq; have := hf q hq'; omega)
            have C3 := (c3.below L).only G3 (fun q hq => by have := hf q hq; omega)
            have O3 : Only [g] w wA := (hO3.trans (Only.of_below L)).thn G3 (fun q hq => Or.inl (by have := hf q hq; omega))
            have HS3 : B2 ≤ wA.heap.size := by have := L.size; have := G3.size; omega
            have Z : Only [bx] wA (wA.setCell ⟨bx, 4, none⟩ (.slice a5 (j + 1) c5)) := (Only.refl _ _).setCell ⟨bx, 4, none⟩ _ (by simp)
            have BX' : Blk (wA.setCell ⟨bx, 4, none⟩ (.slice a5 (j + 1) c5)) bx 41 #[.int .i64 P, .int .i64 i0, .int .i64 i1, .slice ga i gc, .slice a5 (j + 1) c5] := BX.set_ 4 (.slice a5 (j + 1) c5)
            have BR' := BR.only Z (by simp; omega)
            have OG' := OG.only Z (fun q hq hq' => by have := (OG.feet q hq).1; simp at hq'; omega)
            have o5' := o5.only Z (fun q hq hq' => by have := (o5.feet q hq).1; simp at hq'; omega)
            have C3' := C3.only Z (fun q hq => by simp at hq; omega)
            have O3' := O3.thn Z (fun q hq => Or.inl (by simp at hq; omega))
            have HS3' : B2 ≤ (wA.setCell ⟨bx, 4, none⟩ (.slice a5 (j + 1) c5)).heap.size := by have := Z.size; omega
            have HALL := Lib.hid (And.intro BX' (And.intro BR' (And.intro OG' (And.intro o5' (And.intro C3' (And.intro O3' HS3'))))))
            have y4 := BX.cell 4
            have z4 := BX.frozen 4
            clear BX' BR' OG' o5' C3' O3' HS3' Z BR OG C3 O3 G3 L hf o5 g5
            refine hK.out _ _ ?_ (fun hHeld => ?_)
            · trivial
            clear hK K
            (try simp only [pt_])
            refine tk (i := 11) (oi := ⟨some 86, _, _, _, _, _⟩) (v := ?v11_13) hHeld rfl ?y11_13 ?r11_13
            case y11_13 => (intro w _; first | (go_simp; done) | (go_simp; with_reducible rfl) | (with_reducible rfl))
            (try simp only [pt_])
            refine wpAnyH_ready (rs := [12]) (by kernel_rfl) (by simp) ?_
            refine AllReadyH.cons (o := { dst := none, op := _, type := _, pos := _, after := _, guard := _ }) rfl (fun K hK => ?_) ?_
            go_simp
            refine hK.out _ _ ?_ (fun hHeld => ?_)
            · trivial
            clear hK K
            (try simp only [pt_])
            refine wpAnyH_done (by kernel_rfl) ?_ _
            refine NoPanic.normal ?_
            rotate_left 1
            exact AllReadyH.nil
            exact AllReadyH.nil
            exact AllReadyH.nil
            exact AllReadyH.nil
            exact AllReadyH.nil
            exact AllReadyH.nil
            all_goals
              clear x4 x41 x42 x43 BX bx2 br2 og2 oo2 c3 hO3 B_r B_x og oo hs3
              go_wp2
              go_roundw
              case rel => exact ⟨j + 1, by omega, by go_num, HALL.out.2.2.2.2.2.1, HALL.out.2.2.2.2.2.2, a5, c5, _, _, HALL.out.2.1, HALL.out.1, HALL.out.2.2.1, HALL.out.2.2.2.1, by omega, HALL.out.2.2.2.2.1⟩
              case measure => simp [intOf]; omega

          · have f3 : decide (1 + (m : Int) - (j : Int) > 0) = false := by simp; omega
            have hj3 : j ≤ 3 := by omega
            have hbx2 : bx < wr.heap.size := by omega
            have AP : Apart ga gc oa oc := by
              intro x y hx hy ex ey
              have h1 := HGB.out x.block (by simp [foot, rowOf, ex]; omega)
              have h2 := (oo.feet y.block (by simp [foot, rowOf, ey]; omega)).1
              omega
            have Q_og := Lib.hid og.feet
            have Q_oo := Lib.hid oo.feet
            have e_x_0 : wr.cell? ⟨bx, 0, none⟩ = some (.int .i64 P) := B_x.cell 0
            have e_x_1 : wr.cell? ⟨bx, 1, none⟩ = some (.int .i64 i0) := B_x.cell 1
            have e_x_2 : wr.cell? ⟨bx, 2, none⟩ = some (.int .i64 i1) := B_x.cell 2
            have e_x_3 : wr.cell? ⟨bx, 3, none⟩ = some (.slice ga i gc) := B_x.cell 3
            have e_x_4 : wr.cell? ⟨bx, 4, none⟩ = some (.slice oa j oc) := B_x.cell 4
            have e_r_0 : wr.cell? ⟨w.heap.size, 0, none⟩ = some (.int .i64 0) := B_r.cell 0
            have f_r_0 := B_r.frozen 0
            have e_r_1 : wr.cell? ⟨w.heap.size, 1, none⟩ = some (.int .i64 0) := B_r.cell 1
            have f_r_1 := B_r.frozen 1
            have e_r_2 : wr.cell? ⟨w.heap.size, 2, none⟩ = some (.int .i64 0) := B_r.cell 2
            have f_r_2 := B_r.frozen 2
            have e_r_3 : wr.cell? ⟨w.heap.size, 3, none⟩ = some (.slice none 0 0) := B_r.cell 3
            have f_r_3 := B_r.frozen 3
            have e_r_4 : wr.cell? ⟨w.heap.size, 4, none⟩ = some (.slice none 0 0) := B_r.cell 4
            have f_r_4 := B_r.frozen 4
            go_wp2
            clear e_x_0 e_x_1 e_x_2 e_x_3 e_x_4 e_r_0 f_r_0 e_r_1 f_r_1 e_r_2 f_r_2 e_r_3 f_r_3 e_r_4 f_r_4
            have g_1 : Only [w.heap.size] wr (wr.setCell ⟨w.heap.size, 0, none⟩ (.int .i64 P)) := (Only.refl _ _).setCell _ _ (by simp)
            replace B_r := B_r.set_ 0 (.int .i64 P)
            generalize wr.setCell ⟨w.heap.size, 0, none⟩ (.int .i64 P) = w22_1' at *
            have G := g_1
            clear g_1
            have g_2 : Only [w.heap.size] w22_1' (w22_1'.setCell ⟨w.heap.size, 1, none⟩ (.int .i64 i0)) := (Only.refl _ _).setCell _ _ (by simp)
            replace B_r := B_r.set_ 1 (.int .i64 i0)
            generalize w22_1'.setCell ⟨w.heap.size, 1, none⟩ (.int .i64 i0) = w22_2' at *
            replace G := G.trans g_2
            clear g_2
            have g_3 : Only [w.heap.size] w22_2' (w22_2'.setCell ⟨w.heap.size, 2, none⟩ (.int .i64 i1)) := (Only.refl _ _).setCell _ _ (by simp)
            replace B_r := B_r.set_ 2 (.int .i64 i1)
            generalize w22_2'.setCell ⟨w.heap.size, 2, none⟩ (.int .i64 i1) = w22_3' at *
            replace G := G.trans g_3
            clear g_3
            have g_4 : Only [w.heap.size] w22_3' (w22_3'.setCell ⟨w.heap.size, 3, none⟩ (.slice ga i gc)) := (Only.refl _ _).setCell _ _ (by simp)
            replace B_r := B_r.set_ 3 (.slice ga i gc)
            generalize w22_3'.setCell ⟨w.heap.size, 3, none⟩ (.slice ga i gc) = w22_4' at *
            replace G := G.trans g_4
            clear g_4
            have g_5 : Only [w.heap.size] w22_4' (w22_4'.setCell ⟨w.heap.size, 4, none⟩ (.slice oa j oc)) := (Only.refl _ _).setCell _ _ (by simp)
            replace B_r := B_r.set_ 4 (.slice oa j oc)
            generalize w22_4'.setCell ⟨w.heap.size, 4, none⟩ (.slice oa j oc) = w22' at *
            replace G := G.trans g_5
            clear g_5
            simp only [List.setIfInBounds_toArray, List.set_cons_zero, List.set_cons_succ] at B_r
            have V_w22' : Only [g] w w22' := (hO2).thn G (fun q hq => Or.inl (by have := (hO2).size; simp at hq; omega))
            have C_w22'_0 : Cur w22' g _ := hc2.only G (fun q hq => by simp at hq; omega)
            replace B_x := B_x.only G (by first | (simp; done) | (simp; omega))
            replace og := og.only G (fun q hq hq' => by have := Q_og.out q hq; simp at hq'; omega)
            replace oo := oo.only G (fun q hq hq' => by have := Q_oo.out q hq; simp at hq'; omega)
            have sG0 := G.size
            clear G
            clear hO2
            have S_w22' : wr.heap.size + 0 ≤ w22'.heap.size := by omega
            clear sG0
            have e_r_0 : w22'.cell? ⟨w.heap.size, 0, none⟩ = some (.int .i64 P) := B_r.cell 0
            have e_r_1 : w22'.cell? ⟨w.heap.size, 1, none⟩ = some (.int .i64 i0) := B_r.cell 1
            have e_r_2 : w22'.cell? ⟨w.heap.size, 2, none⟩ = some (.int .i64 i1) := B_r.cell 2
            have e_r_3 : w22'.cell? ⟨w.heap.size, 3, none⟩ = some (.slice ga i gc) := B_r.cell 3
            have e_r_4 : w22'.cell? ⟨w.heap.size, 4, none⟩ = some (.slice oa j oc) := B_r.cell 4
            exact bodyPost_ret (v := .agg #[.int .i64 P, .int .i64 i0, .int .i64 i1, .slice ga i gc, .slice oa j oc]) (by simp [results, Try.results93, go_sem, e_r_0, e_r_1, e_r_2, e_r_3, e_r_4]) rfl ⟨_, _, _, _, _, _, _, _, _, _, _, _, rfl, ⟨P0, P1⟩, ⟨x0, i02⟩, ⟨y0, i12⟩, hi7, hj3, og.lower (by omega), oo.lower (by omega), AP, by omega, C_w22'_0, V_w22'⟩

      · have f3 : decide (n > 0) = false := by simp; omega
        have Q_og := Lib.hid og.feet
        have e_x_0 : w20'.cell? ⟨bx, 0, none⟩ = some (.int .i64 P) := B_x.cell 0
        have e_x_1 : w20'.cell? ⟨bx, 1, none⟩ = some (.int .i64 i0) := B_x.cell 1
        have e_x_2 : w20'.cell? ⟨bx, 2, none⟩ = some (.int .i64 i1) := B_x.cell 2
        have e_x_3 : w20'.cell? ⟨bx, 3, none⟩ = some (.slice ga i gc) := B_x.cell 3
        have e_x_4 : w20'.cell? ⟨bx, 4, none⟩ = some (.slice none 0 0) := B_x.cell 4
        have e_r_0 : w20'.cell? ⟨w.heap.size, 0, none⟩ = some (.int .i64 0) := B_r.cell 0
        have f_r_0 := B_r.frozen 0
        have e_r_1 : w20'.cell? ⟨w.heap.size, 1, none⟩ = some (.int .i64 0) := B_r.cell 1
        have f_r_1 := B_r.frozen 1
        have e_r_2 : w20'.cell? ⟨w.heap.size, 2, none⟩ = some (.int .i64 0) := B_r.cell 2
        have f_r_2 := B_r.frozen 2
        have e_r_3 : w20'.cell? ⟨w.heap.size, 3, none⟩ = some (.slice none 0 0) := B_r.cell 3
        have f_r_3 := B_r.frozen 3
        have e_r_4 : w20'.cell? ⟨w.heap.size, 4, none⟩ = some (.slice none 0 0) := B_r.cell 4
        have f_r_4 := B_r.frozen 4
        go_wp2
        clear e_x_0 e_x_1 e_x_2 e_x_3 e_x_4 e_r_0 f_r_0 e_r_1 f_r_1 e_r_2 f_r_2 e_r_3 f_r_3 e_r_4 f_r_4
        have g_1 : Only [w.heap.size] w20' (w20'.setCell ⟨w.heap.size, 0, none⟩ (.int .i64 P)) := (Only.refl _ _).setCell _ _ (by simp)
        replace B_r := B_r.set_ 0 (.int .i64 P)
        generalize w20'.setCell ⟨w.heap.size, 0, none⟩ (.int .i64 P) = w23_1' at *
        have G := g_1
        clear g_1
        have g_2 : Only [w.heap.size] w23_1' (w23_1'.setCell ⟨w.heap.size, 1, none⟩ (.int .i64 i0)) := (Only.refl _ _).setCell _ _ (by simp)
        replace B_r := B_r.set_ 1 (.int .i64 i0)
        generalize w23_1'.setCell ⟨w.heap.size, 1, none⟩ (.int .i64 i0) = w23_2' at *
        replace G := G.trans g_2
        clear g_2
        have g_3 : Only [w.heap.size] w23_2' (w23_2'.setCell ⟨w.heap.size, 2, none⟩ (.int .i64 i1)) := (Only.refl _ _).setCell _ _ (by simp)
        replace B_r := B_r.set_ 2 (.int .i64 i1)
        generalize w23_2'.setCell ⟨w.heap.size, 2, none⟩ (.int .i64 i1) = w23_3' at *
        replace G := G.trans g_3
        clear g_3
        have g_4 : Only [w.heap.size] w23_3' (w23_3'.setCell ⟨w.heap.size, 3, none⟩ (.slice ga i gc)) := (Only.refl _ _).setCell _ _ (by simp)
        replace B_r := B_r.set_ 3 (.slice ga i gc)
        generalize w23_3'.setCell ⟨w.heap.size, 3, none⟩ (.slice ga i gc) = w23_4' at *
        replace G := G.trans g_4
        clear g_4
        have g_5 : Only [w.heap.size] w23_4' (w23_4'.setCell ⟨w.heap.size, 4, none⟩ (.slice none 0 0)) := (Only.refl _ _).setCell _ _ (by simp)
        replace B_r := B_r.set_ 4 (.slice none 0 0)
        generalize w23_4'.setCell ⟨w.heap.size, 4, none⟩ (.slice none 0 0) = w23' at *
        replace G := G.trans g_5
        clear g_5
        simp only [List.setIfInBounds_toArray, List.set_cons_zero, List.set_cons_succ] at B_r
        have V_w23' : Only [g] w w23' := (V_w20').thn G (fun q hq => Or.inl (by have := (V_w20').size; simp at hq; omega))
        have C_w23'_0 : Cur w23' g _ := C_w20'.only G (fun q hq => by simp at hq; omega)
        replace B_x := B_x.only G (by first | (simp; done) | (simp; omega))
        replace og := og.only G (fun q hq hq' => by have := Q_og.out q hq; simp at hq'; omega)
        have sG0 := G.size
        clear G
        clear V_w20'
        have S_w23' : w20'.heap.size + 0 ≤ w23'.heap.size := by omega
        clear sG0
        have e_r_0 : w23'.cell? ⟨w.heap.size, 0, none⟩ = some (.int .i64 P) := B_r.cell 0
        have e_r_1 : w23'.cell? ⟨w.heap.size, 1, none⟩ = some (.int .i64 i0) := B_r.cell 1
        have e_r_2 : w23'.cell? ⟨w.heap.size, 2, none⟩ = some (.int .i64 i1) := B_r.cell 2
        have e_r_3 : w23'.cell? ⟨w.heap.size, 3, none⟩ = some (.slice ga i gc) := B_r.cell 3
        have e_r_4 : w23'.cell? ⟨w.heap.size, 4, none⟩ = some (.slice none 0 0) := B_r.cell 4
        exact bodyPost_ret (v := .agg #[.int .i64 P, .int .i64 i0, .int .i64 i1, .slice ga i gc, .slice none 0 0]) (by simp [results, Try.results93, go_sem, e_r_0, e_r_1, e_r_2, e_r_3, e_r_4]) rfl ⟨_, _, _, _, _, _, _, none, 0, 0, [], _, rfl, ⟨P0, P1⟩, ⟨x0, i02⟩, ⟨y0, i12⟩, hi7, by omega, og.lower (by omega), Own.nil0 _ _ _, (fun _ _ _ h => absurd h (by omega)), by omega, C_w23'_0, V_w23'⟩
end Go.Proofs.Ythpcmbdkboajcaa
