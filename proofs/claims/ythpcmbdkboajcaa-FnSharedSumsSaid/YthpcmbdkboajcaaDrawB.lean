/- Draws of circuits over a field, mostly valid ones. -/
import Derived.Test.YthpcmbdkboajcaaDrawA
namespace Go.Proofs.Ythpcmbdkboajcaa
open Go.RowKit
/-- A drawn circuit, valid or not. -/
def ArQ (w : World) (g k : Nat) (e : Ending) (w' : World) : Prop := ∃ (P i0 i1 : Int) (ga : Option Addr) (gn gc : Nat) (G : List Int) (oa : Option Addr) (on oc : Nat) (O : List Int) (k' : Nat),
  e = .returned (.agg #[.int .i64 P, .int .i64 i0, .int .i64 i1, .slice ga gn gc, .slice oa on oc]) ∧ (-300 ≤ P ∧ P ≤ 300) ∧ (-300 ≤ i0 ∧ i0 ≤ 300) ∧ (-300 ≤ i1 ∧ i1 ≤ 300) ∧ gn ≤ 200 ∧ on ≤ 50 ∧
  OwnF 3 eGate w' w.heap.size ga gn gc G ∧ Own w' w.heap.size oa on oc O ∧ k' ≤ k + 2000 ∧ Cur w' g k' ∧ Only [g] w w'
/-- How many gates the circuit in block bx has. -/
def glen (w : World) (bx : Nat) : Nat := match w.cell? ⟨bx, 3, none⟩ with
  | some (.slice _ n _) => n
  | _ => 0
theorem glen_of {w : World} {bx : Nat} {a : Option Addr} {n c : Nat} (h : w.cell? ⟨bx, 3, none⟩ = some (.slice a n c)) : glen w bx = n := by unfold glen; rw [h]
set_option maxHeartbeats 16000000 in
set_option maxRecDepth 100000 in
theorem anyArith_any (g k : Nat) (w : World) (h : Cur w g k) (hk : k ≤ 600000000000000) :
    Calls Try.prog 60 #[.pointer (some ⟨g, 0, none⟩)] w (ArQ w g k) := by
  have hg := h.lt


  go_enter Try.func60, Try.ntmps60
  go_upto_region 1 with fail
  refine Exists.elim (Blk.new_ w (b := w.heap.size) rfl 41 #[.int .i64 0, .int .i64 0, .int .i64 0, .slice none 0 0, .slice none 0 0]) (fun w1' q => ?_)
  rw [q.1]; have B_r := q.2.1; have s_w1' := q.2.2.1; have u_w1' := q.2.2.2; clear q
  have C_w1' := h.below u_w1'
  have S_w1' : w.heap.size + 1 ≤ w1'.heap.size := Nat.le_of_eq s_w1'.symm
  have V_w1' := (Only.refl [g] w).trans (Only.of_below u_w1')
  clear u_w1' s_w1'
  go_wp2_with fail
  refine (arith_any g _ _ C_w1' (by omega)).mono ?_
  rintro e w2' ⟨P, i0, i1, ga, gn, gc, G, oa, on, oc, O, k0, rfl, hP, hi0, hi1, hgn, hon, og, oo, ap, hk0, C_w2', o_w2'⟩
  have V_w2' := V_w1'.trans o_w2'
  replace B_r := B_r.only o_w2' (by simp; omega)
  have S_w2' := o_w2'.size
  clear o_w2' V_w1'
  have AP := Lib.hid ap.disj
  clear ap
  replace og := og.lower (show w.heap.size + 1 ≤ _ by omega)
  replace oo := oo.lower (show w.heap.size + 1 ≤ _ by omega)

  go_upto_region 2 with fail
  have Q_og := Lib.hid og.feet
  have Q_oo := Lib.hid oo.feet
  refine Exists.elim (Blk.new_ w2' (b := w2'.heap.size) rfl 41 #[.int .i64 P, .int .i64 i0, .int .i64 i1, .slice ga gn gc, .slice oa on oc]) (fun w3' q => ?_)
  rw [q.1]; have B_x := q.2.1; have s_w3' := q.2.2.1; have u_w3' := q.2.2.2; clear q
  replace B_r := B_r.below u_w3'
  replace og := og.below u_w3'
  replace oo := oo.below u_w3'
  have C_w3' := C_w2'.below u_w3'
  have S_w3' : w2'.heap.size + 1 ≤ w3'.heap.size := Nat.le_of_eq s_w3'.symm
  have V_w3' := V_w2'.trans (Only.of_below u_w3')
  clear u_w3' s_w3' V_w2'
  have e_x_0 : w3'.cell? ⟨w2'.heap.size, 0, none⟩ = some (.int .i64 P) := B_x.cell 0
  have e_x_1 : w3'.cell? ⟨w2'.heap.size, 1, none⟩ = some (.int .i64 i0) := B_x.cell 1
  have e_x_2 : w3'.cell? ⟨w2'.heap.size, 2, none⟩ = some (.int .i64 i1) := B_x.cell 2
  have e_x_3 : w3'.cell? ⟨w2'.heap.size, 3, none⟩ = some (.slice ga gn gc) := B_x.cell 3
  have e_x_4 : w3'.cell? ⟨w2'.heap.size, 4, none⟩ = some (.slice oa on oc) := B_x.cell 4
  go_wp2_with fail
  clear e_x_0 e_x_1 e_x_2 e_x_3 e_x_4
  refine (pick_any g _ 30 _ C_w3' (by omega)).mono ?_
  rintro e w4' ⟨s, k_w4', rfl, s0, s1, s2, q_w4', C_w4', o_w4'⟩
  have V_w4' := V_w3'.trans o_w4'
  replace og := og.cur o_w4' (by omega)
  replace oo := oo.cur o_w4' (by omega)
  replace B_r := B_r.only o_w4' (by simp; omega)
  replace B_x := B_x.only o_w4' (by simp; omega)
  have S_w4' := o_w4'.size
  clear o_w4' V_w3'
  clear s1
  have hbx : w.heap.size < w2'.heap.size := by omega
  generalize w2'.heap.size = bx at *
  have hgx : g < bx := by omega












  by_cases h0 : s = 0

  · subst h0
    go_wp2_with fail
    refine (among_r g _ [1, 4, 251, 253] 1 253 _ C_w4' (by omega) (by decide) (by decide) (by decide)).mono ?_
    rintro e w5' ⟨v, k_w5', rfl, v0, v1, q_w5', C_w5', o_w5'⟩
    have V_w5' := V_w4'.trans o_w5'
    replace og := og.cur o_w5' (by omega)
    replace oo := oo.cur o_w5' (by omega)
    replace B_r := B_r.only o_w5' (by simp; omega)
    replace B_x := B_x.only o_w5' (by simp; omega)
    have S_w5' := o_w5'.size
    clear o_w5' V_w4'
    have e_x_0 : w5'.cell? ⟨bx, 0, none⟩ = some (.int .i64 P) := B_x.cell 0
    have f_x_0 := B_x.frozen 0
    have e_x_1 : w5'.cell? ⟨bx, 1, none⟩ = some (.int .i64 i0) := B_x.cell 1
    have f_x_1 := B_x.frozen 1
    have e_x_2 : w5'.cell? ⟨bx, 2, none⟩ = some (.int .i64 i1) := B_x.cell 2
    have f_x_2 := B_x.frozen 2
    have e_x_3 : w5'.cell? ⟨bx, 3, none⟩ = some (.slice ga gn gc) := B_x.cell 3
    have f_x_3 := B_x.frozen 3
    have e_x_4 : w5'.cell? ⟨bx, 4, none⟩ = some (.slice oa on oc) := B_x.cell 4
    have f_x_4 := B_x.frozen 4
    go_upto_region 26 with fail
    clear e_x_0 f_x_0 e_x_1 f_x_1 e_x_2 f_x_2 e_x_3 f_x_3 e_x_4 f_x_4
    have g_1 : Only [bx] w5' (w5'.setCell ⟨bx, 0, none⟩ (.int .i64 v)) := (Only.refl _ _).setCell _ _ (by simp)
    replace B_x := B_x.set_ 0 (.int .i64 v)
    generalize w5'.setCell ⟨bx, 0, none⟩ (.int .i64 v) = w6' at *
    have G := g_1
    clear g_1
    simp only [List.setIfInBounds_toArray, List.set_cons_zero] at B_x
    have V_w6' : Only [g] w w6' := (V_w5').thn G (fun q hq => Or.inl (by have := (V_w5').size; simp at hq; omega))
    have C_w6'_0 : Cur w6' g _ := C_w5'.only G (fun q hq => by simp at hq; omega)
    replace B_r := B_r.only G (by first | (simp; done) | (simp; omega))
    replace og := og.only G (fun q hq hq' => by have := Q_og.out q hq; simp at hq'; omega)
    replace oo := oo.only G (fun q hq hq' => by have := Q_oo.out q hq; simp at hq'; omega)
    have sG0 := G.size
    clear G
    clear V_w5'
    have S_w6' : w5'.heap.size + 0 ≤ w6'.heap.size := by omega
    clear sG0
    have e_x_0 : w6'.cell? ⟨bx, 0, none⟩ = some (.int .i64 v) := B_x.cell 0
    have e_x_1 : w6'.cell? ⟨bx, 1, none⟩ = some (.int .i64 i0) := B_x.cell 1
    have e_x_2 : w6'.cell? ⟨bx, 2, none⟩ = some (.int .i64 i1) := B_x.cell 2
    have e_x_3 : w6'.cell? ⟨bx, 3, none⟩ = some (.slice ga gn gc) := B_x.cell 3
    have e_x_4 : w6'.cell? ⟨bx, 4, none⟩ = some (.slice oa on oc) := B_x.cell 4
    have e_r_0 : w6'.cell? ⟨w.heap.size, 0, none⟩ = some (.int .i64 0) := B_r.cell 0
    have f_r_0 := B_r.frozen 0
    have e_r_1 : w6'.cell? ⟨w.heap.size, 1, none⟩ = some (.int .i64 0) := B_r.cell 1
    have f_r_1 := B_r.frozen 1
    have e_r_2 : w6'.cell? ⟨w.heap.size, 2, none⟩ = some (.int .i64 0) := B_r.cell 2
    have f_r_2 := B_r.frozen 2
    have e_r_3 : w6'.cell? ⟨w.heap.size, 3, none⟩ = some (.slice none 0 0) := B_r.cell 3
    have f_r_3 := B_r.frozen 3
    have e_r_4 : w6'.cell? ⟨w.heap.size, 4, none⟩ = some (.slice none 0 0) := B_r.cell 4
    have f_r_4 := B_r.frozen 4
    go_wp2
    clear e_x_0 e_x_1 e_x_2 e_x_3 e_x_4 e_r_0 f_r_0 e_r_1 f_r_1 e_r_2 f_r_2 e_r_3 f_r_3 e_r_4 f_r_4
    have g_1 : Only [w.heap.size] w6' (w6'.setCell ⟨w.heap.size, 0, none⟩ (.int .i64 v)) := (Only.refl _ _).setCell _ _ (by simp)
    replace B_r := B_r.set_ 0 (.int .i64 v)
    generalize w6'.setCell ⟨w.heap.size, 0, none⟩ (.int .i64 v) = w7_1' at *
    have G := g_1
    clear g_1
    have g_2 : Only [w.heap.size] w7_1' (w7_1'.setCell ⟨w.heap.size, 1, none⟩ (.int .i64 i0)) := (Only.refl _ _).setCell _ _ (by simp)
    replace B_r := B_r.set_ 1 (.int .i64 i0)
    generalize w7_1'.setCell ⟨w.heap.size, 1, none⟩ (.int .i64 i0) = w7_2' at *
    replace G := G.trans g_2
    clear g_2
    have g_3 : Only [w.heap.size] w7_2' (w7_2'.setCell ⟨w.heap.size, 2, none⟩ (.int .i64 i1)) := (Only.refl _ _).setCell _ _ (by simp)
    replace B_r := B_r.set_ 2 (.int .i64 i1)
    generalize w7_2'.setCell ⟨w.heap.size, 2, none⟩ (.int .i64 i1) = w7_3' at *
    replace G := G.trans g_3
    clear g_3
    have g_4 : Only [w.heap.size] w7_3' (w7_3'.setCell ⟨w.heap.size, 3, none⟩ (.slice ga gn gc)) := (Only.refl _ _).setCell _ _ (by simp)
    replace B_r := B_r.set_ 3 (.slice ga gn gc)
    generalize w7_3'.setCell ⟨w.heap.size, 3, none⟩ (.slice ga gn gc) = w7_4' at *
    replace G := G.trans g_4
    clear g_4
    have g_5 : Only [w.heap.size] w7_4' (w7_4'.setCell ⟨w.heap.size, 4, none⟩ (.slice oa on oc)) := (Only.refl _ _).setCell _ _ (by simp)
    replace B_r := B_r.set_ 4 (.slice oa on oc)
    generalize w7_4'.setCell ⟨w.heap.size, 4, none⟩ (.slice oa on oc) = w7' at *
    replace G := G.trans g_5
    clear g_5
    simp only [List.setIfInBounds_toArray, List.set_cons_zero, List.set_cons_succ] at B_r
    have V_w7' : Only [g] w w7' := (V_w6').thn G (fun q hq => Or.inl (by have := (V_w6').size; simp at hq; omega))
    have C_w7'_0 : Cur w7' g _ := C_w6'_0.only G (fun q hq => by simp at hq; omega)
    replace B_x := B_x.only G (by first | (simp; done) | (simp; omega))
    replace og := og.only G (fun q hq hq' => by have := Q_og.out q hq; simp at hq'; omega)
    replace oo := oo.only G (fun q hq hq' => by have := Q_oo.out q hq; simp at hq'; omega)
    have sG0 := G.size
    clear G
    clear V_w6'
    have S_w7' : w6'.heap.size + 0 ≤ w7'.heap.size := by omega
    clear sG0
    have e_r_0 : w7'.cell? ⟨w.heap.size, 0, none⟩ = some (.int .i64 v) := B_r.cell 0
    have e_r_1 : w7'.cell? ⟨w.heap.size, 1, none⟩ = some (.int .i64 i0) := B_r.cell 1
    have e_r_2 : w7'.cell? ⟨w.heap.size, 2, none⟩ = some (.int .i64 i1) := B_r.cell 2
    have e_r_3 : w7'.cell? ⟨w.heap.size, 3, none⟩ = some (.slice ga gn gc) := B_r.cell 3
    have e_r_4 : w7'.cell? ⟨w.heap.size, 4, none⟩ = some (.slice oa on oc) := B_r.cell 4
    exact bodyPost_ret (v := .agg #[.int .i64 v, .int .i64 i0, .int .i64 i1, .slice ga gn gc, .slice oa on oc]) (by simp [results, Try.results60, go_sem, e_r_0, e_r_1, e_r_2, e_r_3, e_r_4]) rfl ⟨_, _, _, _, _, _, _, _, _, _, _, _, rfl, ⟨by omega, by omega⟩, ⟨by omega, by omega⟩, ⟨by omega, by omega⟩, by omega, by omega, og.lower (by omega), oo.lower (by omega), by omega, C_w7'_0, V_w7'⟩

  · have b0 : ((s == 0) : Bool) = false := by simpa using h0
    by_cases h1 : s = 1

    · subst h1
      go_wp2_with fail
      refine (among_r g _ [-1, 8, 9] (-1) 9 _ C_w4' (by omega) (by decide) (by decide) (by decide)).mono ?_
      rintro e w8' ⟨v, k_w8', rfl, v0, v1, q_w8', C_w8', o_w8'⟩
      have V_w8' := V_w4'.trans o_w8'
      replace og := og.cur o_w8' (by omega)
      replace oo := oo.cur o_w8' (by omega)
      replace B_r := B_r.only o_w8' (by simp; omega)
      replace B_x := B_x.only o_w8' (by simp; omega)
      have S_w8' := o_w8'.size
      clear o_w8' V_w4'
      have e_x_0 : w8'.cell? ⟨bx, 0, none⟩ = some (.int .i64 P) := B_x.cell 0
      have f_x_0 := B_x.frozen 0
      have e_x_1 : w8'.cell? ⟨bx, 1, none⟩ = some (.int .i64 i0) := B_x.cell 1
      have f_x_1 := B_x.frozen 1
      have e_x_2 : w8'.cell? ⟨bx, 2, none⟩ = some (.int .i64 i1) := B_x.cell 2
      have f_x_2 := B_x.frozen 2
      have e_x_3 : w8'.cell? ⟨bx, 3, none⟩ = some (.slice ga gn gc) := B_x.cell 3
      have f_x_3 := B_x.frozen 3
      have e_x_4 : w8'.cell? ⟨bx, 4, none⟩ = some (.slice oa on oc) := B_x.cell 4
      have f_x_4 := B_x.frozen 4
      go_upto_region 26 with fail
      clear e_x_0 f_x_0 e_x_1 f_x_1 e_x_2 f_x_2 e_x_3 f_x_3 e_x_4 f_x_4
      have g_1 : Only [bx] w8' (w8'.setCell ⟨bx, 1, none⟩ (.int .i64 v)) := (Only.refl _ _).setCell _ _ (by simp)
      replace B_x := B_x.set_ 1 (.int .i64 v)
      generalize w8'.setCell ⟨bx, 1, none⟩ (.int .i64 v) = w9' at *
      have G := g_1
      clear g_1
      simp only [List.setIfInBounds_toArray, List.set_cons_zero, List.set_cons_succ] at B_x
      have V_w9' : Only [g] w w9' := (V_w8').thn G (fun q hq => Or.inl (by have := (V_w8').size; simp at hq; omega))
      have C_w9'_0 : Cur w9' g _ := C_w8'.only G (fun q hq => by simp at hq; omega)
      replace B_r := B_r.only G (by first | (simp; done) | (simp; omega))
      replace og := og.only G (fun q hq hq' => by have := Q_og.out q hq; simp at hq'; omega)
      replace oo := oo.only G (fun q hq hq' => by have := Q_oo.out q hq; simp at hq'; omega)
      have sG0 := G.size
      clear G
      clear V_w8'
      have S_w9' : w8'.heap.size + 0 ≤ w9'.heap.size := by omega
      clear sG0
      have e_x_0 : w9'.cell? ⟨bx, 0, none⟩ = some (.int .i64 P) := B_x.cell 0
      have e_x_1 : w9'.cell? ⟨bx, 1, none⟩ = some (.int .i64 v) := B_x.cell 1
      have e_x_2 : w9'.cell? ⟨bx, 2, none⟩ = some (.int .i64 i1) := B_x.cell 2
      have e_x_3 : w9'.cell? ⟨bx, 3, none⟩ = some (.slice ga gn gc) := B_x.cell 3
      have e_x_4 : w9'.cell? ⟨bx, 4, none⟩ = some (.slice oa on oc) := B_x.cell 4
      have e_r_0 : w9'.cell? ⟨w.heap.size, 0, none⟩ = some (.int .i64 0) := B_r.cell 0
      have f_r_0 := B_r.frozen 0
      have e_r_1 : w9'.cell? ⟨w.heap.size, 1, none⟩ = some (.int .i64 0) := B_r.cell 1
      have f_r_1 := B_r.frozen 1
      have e_r_2 : w9'.cell? ⟨w.heap.size, 2, none⟩ = some (.int .i64 0) := B_r.cell 2
      have f_r_2 := B_r.frozen 2
      have e_r_3 : w9'.cell? ⟨w.heap.size, 3, none⟩ = some (.slice none 0 0) := B_r.cell 3
      have f_r_3 := B_r.frozen 3
      have e_r_4 : w9'.cell? ⟨w.heap.size, 4, none⟩ = some (.slice none 0 0) := B_r.cell 4
      have f_r_4 := B_r.frozen 4
      go_wp2
      clear e_x_0 e_x_1 e_x_2 e_x_3 e_x_4 e_r_0 f_r_0 e_r_1 f_r_1 e_r_2 f_r_2 e_r_3 f_r_3 e_r_4 f_r_4
      have g_1 : Only [w.heap.size] w9' (w9'.setCell ⟨w.heap.size, 0, none⟩ (.int .i64 P)) := (Only.refl _ _).setCell _ _ (by simp)
      replace B_r := B_r.set_ 0 (.int .i64 P)
      generalize w9'.setCell ⟨w.heap.size, 0, none⟩ (.int .i64 P) = w10_1' at *
      have G := g_1
      clear g_1
      have g_2 : Only [w.heap.size] w10_1' (w10_1'.setCell ⟨w.heap.size, 1, none⟩ (.int .i64 v)) := (Only.refl _ _).setCell _ _ (by simp)
      replace B_r := B_r.set_ 1 (.int .i64 v)
      generalize w10_1'.setCell ⟨w.heap.size, 1, none⟩ (.int .i64 v) = w10_2' at *
      replace G := G.trans g_2
      clear g_2
      have g_3 : Only [w.heap.size] w10_2' (w10_2'.setCell ⟨w.heap.size, 2, none⟩ (.int .i64 i1)) := (Only.refl _ _).setCell _ _ (by simp)
      replace B_r := B_r.set_ 2 (.int .i64 i1)
      generalize w10_2'.setCell ⟨w.heap.size, 2, none⟩ (.int .i64 i1) = w10_3' at *
      replace G := G.trans g_3
      clear g_3
      have g_4 : Only [w.heap.size] w10_3' (w10_3'.setCell ⟨w.heap.size, 3, none⟩ (.slice ga gn gc)) := (Only.refl _ _).setCell _ _ (by simp)
      replace B_r := B_r.set_ 3 (.slice ga gn gc)
      generalize w10_3'.setCell ⟨w.heap.size, 3, none⟩ (.slice ga gn gc) = w10_4' at *
      replace G := G.trans g_4
      clear g_4
      have g_5 : Only [w.heap.size] w10_4' (w10_4'.setCell ⟨w.heap.size, 4, none⟩ (.slice oa on oc)) := (Only.refl _ _).setCell _ _ (by simp)
      replace B_r := B_r.set_ 4 (.slice oa on oc)
      generalize w10_4'.setCell ⟨w.heap.size, 4, none⟩ (.slice oa on oc) = w10' at *
      replace G := G.trans g_5
      clear g_5
      simp only [List.setIfInBounds_toArray, List.set_cons_zero, List.set_cons_succ] at B_r
      have V_w10' : Only [g] w w10' := (V_w9').thn G (fun q hq => Or.inl (by have := (V_w9').size; simp at hq; omega))
      have C_w10'_0 : Cur w10' g _ := C_w9'_0.only G (fun q hq => by simp at hq; omega)
      replace B_x := B_x.only G (by first | (simp; done) | (simp; omega))
      replace og := og.only G (fun q hq hq' => by have := Q_og.out q hq; simp at hq'; omega)
      replace oo := oo.only G (fun q hq hq' => by have := Q_oo.out q hq; simp at hq'; omega)
      have sG0 := G.size
      clear G
      clear V_w9'
      have S_w10' : w9'.heap.size + 0 ≤ w10'.heap.size := by omega
      clear sG0
      have e_r_0 : w10'.cell? ⟨w.heap.size, 0, none⟩ = some (.int .i64 P) := B_r.cell 0
      have e_r_1 : w10'.cell? ⟨w.heap.size, 1, none⟩ = some (.int .i64 v) := B_r.cell 1
      have e_r_2 : w10'.cell? ⟨w.heap.size, 2, none⟩ = some (.int .i64 i1) := B_r.cell 2
      have e_r_3 : w10'.cell? ⟨w.heap.size, 3, none⟩ = some (.slice ga gn gc) := B_r.cell 3
      have e_r_4 : w10'.cell? ⟨w.heap.size, 4, none⟩ = some (.slice oa on oc) := B_r.cell 4
      exact bodyPost_ret (v := .agg #[.int .i64 P, .int .i64 v, .int .i64 i1, .slice ga gn gc, .slice oa on oc]) (by simp [results, Try.results60, go_sem, e_r_0, e_r_1, e_r_2, e_r_3, e_r_4]) rfl ⟨_, _, _, _, _, _, _, _, _, _, _, _, rfl, ⟨by omega, by omega⟩, ⟨by omega, by omega⟩, ⟨by omega, by omega⟩, by omega, by omega, og.lower (by omega), oo.lower (by omega), by omega, C_w10'_0, V_w10'⟩

    · have b1 : ((s == 1) : Bool) = false := by simpa using h1
      by_cases h2 : s = 2

      · subst h2
        clear b0 b1
        have b0 : ((2 : Int) == 0) = false := rfl
        have b1 : ((2 : Int) == 1) = false := rfl
        go_upto_region 9 with fail
        clear b0 b1
        have x4 : w4'.drew.cell? ⟨bx, 4, none⟩ = some (.slice oa on oc) := B_x.cell 4
        have x0' : w4'.drew.cell? ⟨bx, 0, none⟩ = some (.int .i64 P) := B_x.cell 0
        have x1' : w4'.drew.cell? ⟨bx, 1, none⟩ = some (.int .i64 i0) := B_x.cell 1
        have x2' : w4'.drew.cell? ⟨bx, 2, none⟩ = some (.int .i64 i1) := B_x.cell 2
        have x3' : w4'.drew.cell? ⟨bx, 3, none⟩ = some (.slice ga gn gc) := B_x.cell 3
        refine wp_region_noPanic ?_
        refine wp_region_held_drew (S := (fun _ => True)) (by kernel_rfl) ?hS14 (fun hHeld => ?go14)
        case hS14 => trivial
        refine tk (i := 0) (oi := ⟨some 28, _, _, _, _, _⟩) (v := ?v0_15) hHeld rfl ?y0_15 ?r0_15
        case y0_15 => (intro w _; first | (go_simp; done) | (go_simp; with_reducible rfl) | (with_reducible rfl))
        (try simp only [pt_])
        refine tk (i := 2) (oi := ⟨some 30, _, _, _, _, _⟩) (v := ?v2_16) hHeld rfl ?y2_16 ?r2_16
        case y2_16 => (intro w _; first | (go_simp; done) | (go_simp; with_reducible rfl) | (with_reducible rfl))
        (try simp only [pt_])
        refine wpAnyH_ready (rs := [1, 3]) (by kernel_rfl) (by simp) ?_
        refine AllReadyH.cons (o := { dst := some 29, op := _, type := _, pos := _, after := _, guard := _ }) rfl (fun K hK => ?_) ?_
        go_simp
        refine hK.out _ _ ?_ (fun hHeld => ?_)
        · trivial
        clear hK K
        (try simp only [pt_])
        refine wpAnyH_ready (rs := [3]) (by kernel_rfl) (by simp) ?_
        refine AllReadyH.cons (o := { dst := some 31, op := _, type := _, pos := _, after := _, guard := _ }) rfl (fun K hK => ?_) ?_
        go_simp
        refine hK.out _ _ ?_ (fun hHeld => ?_)
        · trivial
        clear hK K
        (try simp only [pt_])
        refine wpAnyH_ready (rs := [4]) (by kernel_rfl) (by simp) ?_
        refine AllReadyH.cons (o := { dst := some 32, op := _, type := _, pos := _, after := _, guard := _ }) rfl (fun K hK => ?_) ?_
        go_simp
        refine (arWires_any P i0 i1 ga gn gc (.slice oa on oc) _ rfl ⟨by omega, by omega⟩ ⟨by omega, by omega⟩ (by omega)).mono ?_
        rintro e wl ⟨rfl, ul⟩
        have bx1 := (Blk.drew B_x).below ul
        have br1 := (Blk.drew B_r).below ul
        have og1 := og.drew.below ul
        have oo1 := oo.drew.below ul
        have c1 := (Cur.drew C_w4').below ul
        have v1 : Only [g] w wl := (V_w4'.trans (Only.of_below ((Below.refl _ _).drew))).trans (Only.of_below ul)
        have s1 : w4'.heap.size ≤ wl.heap.size := ul.size
        clear ul
        have x42 := bx1.cell 4
        have x43 : (wl.alloc (.cells #[.int .i64 (-1), .int .i64 (i0 + i1 + (gn : Int))] 3)).cell? ⟨bx, 4, none⟩ = some (.slice oa on oc) := keepA _ x42
        refine hK.out _ _ ?_ (fun hHeld => ?_)
        · trivial
        clear hK K
        (try simp only [pt_])
        refine wpAnyH_ready (rs := [5]) (by kernel_rfl) (by simp) ?_
        refine AllReadyH.cons (o := { dst := some 33, op := _, type := _, pos := _, after := _, guard := _ }) rfl (fun K hK => ?_) ?_
        go_simp
        refine hK.out _ _ ?_ (fun hHeld => ?_)
        · trivial
        clear hK K
        (try simp only [pt_])
        refine wpAnyH_ready (rs := [6]) (by kernel_rfl) (by simp) ?_
        refine AllReadyH.cons (o := { dst := some 34, op := _, type := _, pos := _, after := _, guard := _ }) rfl (fun K hK => ?_) ?_
        go_simp
        refine (among_r g _ [-1, (i0 + i1 + (gn : Int))] (-1) 100 wl c1 (by omega) (by simp) (by simp) (by simp; omega)).mono ?_
        rintro e wm ⟨y, k4, rfl, y0, y1, q4, c4, o4⟩
        have bx4 := bx1.only o4 (by simp; omega)
        have br4 := br1.only o4 (by simp; omega)
        have og4 := og1.cur o4 (by omega)
        have oo4 := oo1.cur o4 (by omega)
        have v4 := v1.trans o4
        have s4 := Nat.le_trans s1 o4.size
        clear o4
        have x44 := bx4.cell 4
        have x45 : (wm.alloc (.cells #[.int .i64 y] 3)).cell? ⟨bx, 4, none⟩ = some (.slice oa on oc) := keepA _ x44
        refine hK.out _ _ ?_ (fun hHeld => ?_)
        · trivial
        clear hK K
        (try simp only [pt_])
        refine wpAnyH_ready (rs := [7]) (by kernel_rfl) (by simp) ?_
        refine AllReadyH.cons (o := { dst := some 35, op := _, type := _, pos := _, after := _, guard := _ }) rfl (fun K hK => ?_) ?_
        go_simp
        refine hK.out _ _ ?_ (fun hHeld => ?_)
        · trivial
        clear hK K
        (try simp only [pt_])
        refine wpAnyH_ready (rs := [8]) (by kernel_rfl) (by simp) ?_
        refine AllReadyH.cons (o := { dst := some 36, op := _, type := _, pos := _, after := _, guard := _ }) rfl (fun K hK => ?_) ?_
        refine step_appJ _ (by rfl) _ _ (by rfl) (w.heap.size + 1) oa on oc O (by rfl) (oo4.alloc _) _ 1 1 [y] (by rfl) (Ints.lit1 _ _ _) (by omega) (by simp; omega) ?_
        intro a5 c5 wA o5 u5 g5 hold5 m5
        clear hold5 u5
        have hbm := bx4.lt
        have D5 : Disj (foot a5 c5) [bx] := m5.disj (fun q hq hq' => by have := (Q_oo.out q hq).2; simp at hq'; omega) (fun q hq => by simp at hq; subst hq; simp; omega)
        clear m5
        have L := (Below.refl wm.heap.size wm).alloc (Nat.le_refl _) (.cells #[.int .i64 y] 3)
        have G3 : Only (foot oa oc) (wm.alloc (.cells #[.int .i64 y] 3)) wA := Only.of_grown g5
        have hf : ∀ q ∈ foot oa oc, w.heap.size + 1 ≤ q ∧ q < bx := fun q hq => ⟨(oo4.feet q hq).1, (Q_oo.out q hq).2⟩
        have BX := (bx4.below L).only G3 (by intro hm; have := hf _ hm; omega)
        have BR := (br4.below L).only G3 (by intro hm; have := hf _ hm; omega)
        have OG := (og4.below L).only G3 AP.out
        have C3 := (c4.below L).only G3 (fun q hq => by have := hf q hq; omega)
        have O3 : Only [g] w wA := (v4.trans (Only.of_below L)).thn G3 (fun q hq => Or.inl (by have := hf q hq; omega))
        have Z : Only [bx] wA (wA.setCell ⟨bx, 4, none⟩ (.slice a5 (on + 1) c5)) := (Only.refl _ _).setCell ⟨bx, 4, none⟩ _ (by simp)
        have BX' : Blk (wA.setCell ⟨bx, 4, none⟩ (.slice a5 (on + 1) c5)) bx 41 #[.int .i64 P, .int .i64 i0, .int .i64 i1, .slice ga gn gc, .slice a5 (on + 1) c5] := BX.set_ 4 (.slice a5 (on + 1) c5)
        have BR' := BR.only Z (by simp; omega)
        have OG' := OG.only Z (fun q hq hq' => by have := (Q_og.out q hq).2; simp at hq'; omega)
        have o5' := o5.only Z D5
        have C3' := C3.only Z (fun q hq => by simp at hq; omega)
        have O3' := O3.thn Z (fun q hq => Or.inl (by simp at hq; omega))
        have HALL := Lib.hid (And.intro BX' (And.intro BR' (And.intro OG' (And.intro o5' (And.intro C3' O3')))))
        have y4 := BX.cell 4
        have z4 := BX.frozen 4
        clear BX' BR' OG' o5' C3' O3' Z BR OG C3 O3 G3 L hf o5 g5
        refine hK.out _ _ ?_ (fun hHeld => ?_)
        · trivial
        clear hK K
        (try simp only [pt_])
        refine tk (i := 9) (oi := ⟨some 37, _, _, _, _, _⟩) (v := ?v9_17) hHeld rfl ?y9_17 ?r9_17
        case y9_17 => (intro w _; first | (go_simp; done) | (go_simp; with_reducible rfl) | (with_reducible rfl))
        (try simp only [pt_])
        refine wpAnyH_ready (rs := [10]) (by kernel_rfl) (by simp) ?_
        refine AllReadyH.cons (o := { dst := none, op := _, type := _, pos := _, after := _, guard := _ }) rfl (fun K hK => ?_) ?_
        go_simp
        refine hK.out _ _ ?_ (fun hHeld => ?_)
        · trivial
        clear hK K
        (try simp only [pt_])
        refine wpAnyH_done (by kernel_rfl) ?_ _
        refine NoPanic.normal ?_
        rotate_left 1
        exact AllReadyH.nil
        exact AllReadyH.nil
        exact AllReadyH.nil
        exact AllReadyH.nil
        exact AllReadyH.nil
        exact AllReadyH.nil
        exact AllReadyH.nil
        refine AllReadyH.cons (o := { dst := some 31, op := _, type := _, pos := _, after := _, guard := _ }) rfl (fun K hK => ?_) ?_
        go_simp
        refine hK.out _ _ ?_ (fun hHeld => ?_)
        · trivial
        clear hK K
        (try simp only [pt_])
        refine wpAnyH_ready (rs := [1, 4]) (by kernel_rfl) (by simp) ?_
        refine AllReadyH.cons (o := { dst := some 29, op := _, type := _, pos := _, after := _, guard := _ }) rfl (fun K hK => ?_) ?_
        go_simp
        refine hK.out _ _ ?_ (fun hHeld => ?_)
        · trivial
        clear hK K
        (try simp only [pt_])
        refine wpAnyH_ready (rs := [4]) (by kernel_rfl) (by simp) ?_
        refine AllReadyH.cons (o := { dst := some 32, op := _, type := _, pos := _, after := _, guard := _ }) rfl (fun K hK => ?_) ?_
        go_simp
        refine (arWires_any P i0 i1 ga gn gc (.slice oa on oc) _ rfl ⟨by omega, by omega⟩ ⟨by omega, by omega⟩ (by omega)).mono ?_
        rintro e wl ⟨rfl, ul⟩
        have bx1 := (Blk.drew B_x).below ul
        have br1 := (Blk.drew B_r).below ul
        have og1 := og.drew.below ul
        have oo1 := oo.drew.below ul
        have c1 := (Cur.drew C_w4').below ul
        have v1 : Only [g] w wl := (V_w4'.trans (Only.of_below ((Below.refl _ _).drew))).trans (Only.of_below ul)
        have s1 : w4'.heap.size ≤ wl.heap.size := ul.size
        clear ul
        have x42 := bx1.cell 4
        have x43 : (wl.alloc (.cells #[.int .i64 (-1), .int .i64 (i0 + i1 + (gn : Int))] 3)).cell? ⟨bx, 4, none⟩ = some (.slice oa on oc) := keepA _ x42
        refine hK.out _ _ ?_ (fun hHeld => ?_)
        · trivial
        clear hK K
        (try simp only [pt_])
        refine wpAnyH_ready (rs := [5]) (by kernel_rfl) (by simp) ?_
        refine AllReadyH.cons (o := { dst := some 33, op := _, type := _, pos := _, after := _, guard := _ }) rfl (fun K hK => ?_) ?_
        go_simp
        refine hK.out _ _ ?_ (fun hHeld => ?_)
        · trivial
        clear hK K
        (try simp only [pt_])
        refine wpAnyH_ready (rs := [6]) (by kernel_rfl) (by simp) ?_
        refine AllReadyH.cons (o := { dst := some 34, op := _, type := _, pos := _, after := _, guard := _ }) rfl (fun K hK => ?_) ?_
        go_simp
        refine (among_r g _ [-1, (i0 + i1 + (gn : Int))] (-1) 100 wl c1 (by omega) (by simp) (by simp) (by simp; omega)).mono ?_
        rintro e wm ⟨y, k4, rfl, y0, y1, q4, c4, o4⟩
        have bx4 := bx1.only o4 (by simp; omega)
        have br4 := br1.only o4 (by simp; omega)
        have og4 := og1.cur o4 (by omega)
        have oo4 := oo1.cur o4 (by omega)
        have v4 := v1.trans o4
        have s4 := Nat.le_trans s1 o4.size
        clear o4
        have x44 := bx4.cell 4
        have x45 : (wm.alloc (.cells #[.int .i64 y] 3)).cell? ⟨bx, 4, none⟩ = some (.slice oa on oc) := keepA _ x44
        refine hK.out _ _ ?_ (fun hHeld => ?_)
        · trivial
        clear hK K
        (try simp only [pt_])
        refine wpAnyH_ready (rs := [7]) (by kernel_rfl) (by simp) ?_
        refine AllReadyH.cons (o := { dst := some 35, op := _, type := _, pos := _, after := _, guard := _ }) rfl (fun K hK => ?_) ?_
        go_simp
        refine hK.out _ _ ?_ (fun hHeld => ?_)
        · trivial
        clear hK K
        (try simp only [pt_])
        refine wpAnyH_ready (rs := [8]) (by kernel_rfl) (by simp) ?_
        refine AllReadyH.cons (o := { dst := some 36, op := _, type := _, pos := _, after := _, guard := _ }) rfl (fun K hK => ?_) ?_
        refine step_appJ _ (by rfl) _ _ (by rfl) (w.heap.size + 1) oa on oc O (by rfl) (oo4.alloc _) _ 1 1 [y] (by rfl) (Ints.lit1 _ _ _) (by omega) (by simp; omega) ?_
        intro a5 c5 wA o5 u5 g5 hold5 m5
        clear hold5 u5
        have hbm := bx4.lt
        have D5 : Disj (foot a5 c5) [bx] := m5.disj (fun q hq hq' => by have := (Q_oo.out q hq).2; simp at hq'; omega) (fun q hq => by simp at hq; subst hq; simp; omega)
        clear m5
        have L := (Below.refl wm.heap.size wm).alloc (Nat.le_refl _) (.cells #[.int .i64 y] 3)
        have G3 : Only (foot oa oc) (wm.alloc (.cells #[.int .i64 y] 3)) wA := Only.of_grown g5
        have hf : ∀ q ∈ foot oa oc, w.heap.size + 1 ≤ q ∧ q < bx := fun q hq => ⟨(oo4.feet q hq).1, (Q_oo.out q hq).2⟩
        have BX := (bx4.below L).only G3 (by intro hm; have := hf _ hm; omega)
        have BR := (br4.below L).only G3 (by intro hm; have := hf _ hm; omega)
        have OG := (og4.below L).only G3 AP.out
        have C3 := (c4.below L).only G3 (fun q hq => by have := hf q hq; omega)
        have O3 : Only [g] w wA := (v4.trans (Only.of_below L)).thn G3 (fun q hq => Or.inl (by have := hf q hq; omega))
        have Z : Only [bx] wA (wA.setCell ⟨bx, 4, none⟩ (.slice a5 (on + 1) c5)) := (Only.refl _ _).setCell ⟨bx, 4, none⟩ _ (by simp)
        have BX' : Blk (wA.setCell ⟨bx, 4, none⟩ (.slice a5 (on + 1) c5)) bx 41 #[.int .i64 P, .int .i64 i0, .int .i64 i1, .slice ga gn gc, .slice a5 (on + 1) c5] := BX.set_ 4 (.slice a5 (on + 1) c5)
        have BR' := BR.only Z (by simp; omega)
        have OG' := OG.only Z (fun q hq hq' => by have := (Q_og.out q hq).2; simp at hq'; omega)
        have o5' := o5.only Z D5
        have C3' := C3.only Z (fun q hq => by simp at hq; omega)
        have O3' := O3.thn Z (fun q hq => Or.inl (by simp at hq; omega))
        have HALL := Lib.hid (And.intro BX' (And.intro BR' (And.intro OG' (And.intro o5' (And.intro C3' O3')))))
        have y4 := BX.cell 4
        have z4 := BX.frozen 4
        clear BX' BR' OG' o5' C3' O3' Z BR OG C3 O3 G3 L hf o5 g5
        refine hK.out _ _ ?_ (fun hHeld => ?_)
        · trivial
        clear hK K
        (try simp only [pt_])
        refine tk (i := 9) (oi := ⟨some 37, _, _, _, _, _⟩) (v := ?v9_18) hHeld rfl ?y9_18 ?r9_18
        case y9_18 => (intro w _; first | (go_simp; done) | (go_simp; with_reducible rfl) | (with_reducible rfl))
        (try simp only [pt_])
        refine wpAnyH_ready (rs := [10]) (by kernel_rfl) (by simp) ?_
        refine AllReadyH.cons (o := { dst := none, op := _, type := _, pos := _, after := _, guard := _ }) rfl (fun K hK => ?_) ?_
        go_simp
        refine hK.out _ _ ?_ (fun hHeld => ?_)
        · trivial
        clear hK K
        (try simp only [pt_])
        refine wpAnyH_done (by kernel_rfl) ?_ _
        refine NoPanic.normal ?_
        rotate_left 1
        exact AllReadyH.nil
        exact AllReadyH.nil
        exact AllReadyH.nil
        exact AllReadyH.nil
        exact AllReadyH.nil
        exact AllReadyH.nil
        refine AllReadyH.cons (o := { dst := some 32, op := _, type := _, pos := _, after := _, guard := _ }) rfl (fun K hK => ?_) ?_
        go_simp
        refine (arWires_any P i0 i1 ga gn gc (.slice oa on oc) _ rfl ⟨by omega, by omega⟩ ⟨by omega, by omega⟩ (by omega)).mono ?_
        rintro e wl ⟨rfl, ul⟩
        have bx1 := (Blk.drew B_x).below ul
        have br1 := (Blk.drew B_r).below ul
        have og1 := og.drew.below ul
        have oo1 := oo.drew.below ul
        have c1 := (Cur.drew C_w4').below ul
        have v1 : Only [g] w wl := (V_w4'.trans (Only.of_below ((Below.refl _ _).drew))).trans (Only.of_below ul)
        have s1 : w4'.heap.size ≤ wl.heap.size := ul.size
        clear ul
        have x42 := bx1.cell 4
        have x43 : (wl.alloc (.cells #[.int .i64 (-1), .int .i64 (i0 + i1 + (gn : Int))] 3)).cell? ⟨bx, 4, none⟩ = some (.slice oa on oc) := keepA _ x42
        refine hK.out _ _ ?_ (fun hHeld => ?_)
        · trivial
        clear hK K
        (try simp only [pt_])
        refine wpAnyH_ready (rs := [1, 5]) (by kernel_rfl) (by simp) ?_
        refine AllReadyH.cons (o := { dst := some 29, op := _, type := _, pos := _, after := _, guard := _ }) rfl (fun K hK => ?_) ?_
        go_simp
        refine hK.out _ _ ?_ (fun hHeld => ?_)
        · trivial
        clear hK K
        (try simp only [pt_])
        refine wpAnyH_ready (rs := [5]) (by kernel_rfl) (by simp) ?_
        refine AllReadyH.cons (o := { dst := some 33, op := _, type := _, pos := _, after := _, guard := _ }) rfl (fun K hK => ?_) ?_
        go_simp
        refine hK.out _ _ ?_ (fun hHeld => ?_)
        · trivial
        clear hK K
        (try simp only [pt_])
        refine wpAnyH_ready (rs := [6]) (by kernel_rfl) (by simp) ?_
        refine AllReadyH.cons (o := { dst := some 34, op := _, type := _, pos := _, after := _, guard := _ }) rfl (fun K hK => ?_) ?_
        go_simp
        refine (among_r g _ [-1, (i0 + i1 + (gn : Int))] (-1) 100 wl c1 (by omega) (by simp) (by simp) (by simp; omega)).mono ?_
        rintro e wm ⟨y, k4, rfl, y0, y1, q4, c4, o4⟩
        have bx4 := bx1.only o4 (by simp; omega)
        have br4 := br1.only o4 (by simp; omega)
        have og4 := og1.cur o4 (by omega)
        have oo4 := oo1.cur o4 (by omega)
        have v4 := v1.trans o4
        have s4 := Nat.le_trans s1 o4.size
        clear o4
        have x44 := bx4.cell 4
        have x45 : (wm.alloc (.cells #[.int .i64 y] 3)).cell? ⟨bx, 4, none⟩ = some (.slice oa on oc) := keepA _ x44
        refine hK.out _ _ ?_ (fun hHeld => ?_)
        · trivial
        clear hK K
        (try simp only [pt_])
        refine wpAnyH_ready (rs := [7]) (by kernel_rfl) (by simp) ?_
        refine AllReadyH.cons (o := { dst := some 35, op := _, type := _, pos := _, after := _, guard := _ }) rfl (fun K hK => ?_) ?_
        go_simp
        refine hK.out _ _ ?_ (fun hHeld => ?_)
        · trivial
        clear hK K
        (try simp only [pt_])
        refine wpAnyH_ready (rs := [8]) (by kernel_rfl) (by simp) ?_
        refine AllReadyH.cons (o := { dst := some 36, op := _, type := _, pos := _, after := _, guard := _ }) rfl (fun K hK => ?_) ?_
        refine step_appJ _ (by rfl) _ _ (by rfl) (w.heap.size + 1) oa on oc O (by rfl) (oo4.alloc _) _ 1 1 [y] (by rfl) (Ints.lit1 _ _ _) (by omega) (by simp; omega) ?_
        intro a5 c5 wA o5 u5 g5 hold5 m5
        clear hold5 u5
        have hbm := bx4.lt
        have D5 : Disj (foot a5 c5) [bx] := m5.disj (fun q hq hq' => by have := (Q_oo.out q hq).2; simp at hq'; omega) (fun q hq => by simp at hq; subst hq; simp; omega)
        clear m5
        have L := (Below.refl wm.heap.size wm).alloc (Nat.le_refl _) (.cells #[.int .i64 y] 3)
        have G3 : Only (foot oa oc) (wm.alloc (.cells #[.int .i64 y] 3)) wA := Only.of_grown g5
        have hf : ∀ q ∈ foot oa oc, w.heap.size + 1 ≤ q ∧ q < bx := fun q hq => ⟨(oo4.feet q hq).1, (Q_oo.out q hq).2⟩
        have BX := (bx4.below L).only G3 (by intro hm; have := hf _ hm; omega)
        have BR := (br4.below L).only G3 (by intro hm; have := hf _ hm; omega)
        have OG := (og4.below L).only G3 AP.out
        have C3 := (c4.below L).only G3 (fun q hq => by have := hf q hq; omega)
        have O3 : Only [g] w wA := (v4.trans (Only.of_below L)).thn G3 (fun q hq => Or.inl (by have := hf q hq; omega))
        have Z : Only [bx] wA (wA.setCell ⟨bx, 4, none⟩ (.slice a5 (on + 1) c5)) := (Only.refl _ _).setCell ⟨bx, 4, none⟩ _ (by simp)
        have BX' : Blk (wA.setCell ⟨bx, 4, none⟩ (.slice a5 (on + 1) c5)) bx 41 #[.int .i64 P, .int .i64 i0, .int .i64 i1, .slice ga gn gc, .slice a5 (on + 1) c5] := BX.set_ 4 (.slice a5 (on + 1) c5)
        have BR' := BR.only Z (by simp; omega)
        have OG' := OG.only Z (fun q hq hq' => by have := (Q_og.out q hq).2; simp at hq'; omega)
        have o5' := o5.only Z D5
        have C3' := C3.only Z (fun q hq => by simp at hq; omega)
        have O3' := O3.thn Z (fun q hq => Or.inl (by simp at hq; omega))
        have HALL := Lib.hid (And.intro BX' (And.intro BR' (And.intro OG' (And.intro o5' (And.intro C3' O3')))))
        have y4 := BX.cell 4
        have z4 := BX.frozen 4
        clear BX' BR' OG' o5' C3' O3' Z BR OG C3 O3 G3 L hf o5 g5
        refine hK.out _ _ ?_ (fun hHeld => ?_)
        · trivial
        clear hK K
        (try simp only [pt_])
        refine tk (i := 9) (oi := ⟨some 37, _, _, _, _, _⟩) (v := ?v9_19) hHeld rfl ?y9_19 ?r9_19
        case y9_19 => (intro w _; first | (go_simp; done) | (go_simp; with_reducible rfl) | (with_reducible rfl))
        (try simp only [pt_])
        refine wpAnyH_ready (rs := [10]) (by kernel_rfl) (by simp) ?_
        refine AllReadyH.cons (o := { dst := none, op := _, type := _, pos := _, after := _, guard := _ }) rfl (fun K hK => ?_) ?_
        go_simp
        refine hK.out _ _ ?_ (fun hHeld => ?_)
        · trivial
        clear hK K
        (try simp only [pt_])
        refine wpAnyH_done (by kernel_rfl) ?_ _
        refine NoPanic.normal ?_
        rotate_left 1
        exact AllReadyH.nil
        exact AllReadyH.nil
        exact AllReadyH.nil
        exact AllReadyH.nil
        exact AllReadyH.nil
        refine AllReadyH.cons (o := { dst := some 33, op := _, type := _, pos := _, after := _, guard := _ }) rfl (fun K hK => ?_) ?_
        go_simp
        refine hK.out _ _ ?_ (fun hHeld => ?_)
        · trivial
        clear hK K
        (try simp only [pt_])
        refine wpAnyH_ready (rs := [1, 6]) (by kernel_rfl) (by simp) ?_
        refine AllReadyH.cons (o := { dst := some 29, op := _, type := _, pos := _, after := _, guard := _ }) rfl (fun K hK => ?_) ?_
        go_simp
        refine hK.out _ _ ?_ (fun hHeld => ?_)
        · trivial
        clear hK K
        (try simp only [pt_])
        refine wpAnyH_ready (rs := [6]) (by kernel_rfl) (by simp) ?_
        refine AllReadyH.cons (o := { dst := some 34, op := _, type := _, pos := _, after := _, guard := _ }) rfl (fun K hK => ?_) ?_
        go_simp
        refine (among_r g _ [-1, (i0 + i1 + (gn : Int))] (-1) 100 wl c1 (by omega) (by simp) (by simp) (by simp; omega)).mono ?_
        rintro e wm ⟨y, k4, rfl, y0, y1, q4, c4, o4⟩
        have bx4 := bx1.only o4 (by simp; omega)
        have br4 := br1.only o4 (by simp; omega)
        have og4 := og1.cur o4 (by omega)
        have oo4 := oo1.cur o4 (by omega)
        have v4 := v1.trans o4
        have s4 := Nat.le_trans s1 o4.size
        clear o4
        have x44 := bx4.cell 4
        have x45 : (wm.alloc (.cells #[.int .i64 y] 3)).cell? ⟨bx, 4, none⟩ = some (.slice oa on oc) := keepA _ x44
        refine hK.out _ _ ?_ (fun hHeld => ?_)
        · trivial
        clear hK K
        (try simp only [pt_])
        refine wpAnyH_ready (rs := [7]) (by kernel_rfl) (by simp) ?_
        refine AllReadyH.cons (o := { dst := some 35, op := _, type := _, pos := _, after := _, guard := _ }) rfl (fun K hK => ?_) ?_
        go_simp
        refine hK.out _ _ ?_ (fun hHeld => ?_)
        · trivial
        clear hK K
        (try simp only [pt_])
        refine wpAnyH_ready (rs := [8]) (by kernel_rfl) (by simp) ?_
        refine AllReadyH.cons (o := { dst := some 36, op := _, type := _, pos := _, after := _, guard := _ }) rfl (fun K hK => ?_) ?_
        refine step_appJ _ (by rfl) _ _ (by rfl) (w.heap.size + 1) oa on oc O (by rfl) (oo4.alloc _) _ 1 1 [y] (by rfl) (Ints.lit1 _ _ _) (by omega) (by simp; omega) ?_
        intro a5 c5 wA o5 u5 g5 hold5 m5
        clear hold5 u5
        have hbm := bx4.lt
        have D5 : Disj (foot a5 c5) [bx] := m5.disj (fun q hq hq' => by have := (Q_oo.out q hq).2; simp at hq'; omega) (fun q hq => by simp at hq; subst hq; simp; omega)
        clear m5
        have L := (Below.refl wm.heap.size wm).alloc (Nat.le_refl _) (.cells #[.int .i64 y] 3)
        have G3 : Only (foot oa oc) (wm.alloc (.cells #[.int .i64 y] 3)) wA := Only.of_grown g5
        have hf : ∀ q ∈ foot oa oc, w.heap.size + 1 ≤ q ∧ q < bx := fun q hq => ⟨(oo4.feet q hq).1, (Q_oo.out q hq).2⟩
        have BX := (bx4.below L).only G3 (by intro hm; have := hf _ hm; omega)
        have BR := (br4.below L).only G3 (by intro hm; have := hf _ hm; omega)
        have OG := (og4.below L).only G3 AP.out
        have C3 := (c4.below L).only G3 (fun q hq => by have := hf q hq; omega)
        have O3 : Only [g] w wA := (v4.trans (Only.of_below L)).thn G3 (fun q hq => Or.inl (by have := hf q hq; omega))
        have Z : Only [bx] wA (wA.setCell ⟨bx, 4, none⟩ (.slice a5 (on + 1) c5)) := (Only.refl _ _).setCell ⟨bx, 4, none⟩ _ (by simp)
        have BX' : Blk (wA.setCell ⟨bx, 4, none⟩ (.slice a5 (on + 1) c5)) bx 41 #[.int .i64 P, .int .i64 i0, .int .i64 i1, .slice ga gn gc, .slice a5 (on + 1) c5] := BX.set_ 4 (.slice a5 (on + 1) c5)
        have BR' := BR.only Z (by simp; omega)
        have OG' := OG.only Z (fun q hq hq' => by have := (Q_og.out q hq).2; simp at hq'; omega)
        have o5' := o5.only Z D5
        have C3' := C3.only Z (fun q hq => by simp at hq; omega)
        have O3' := O3.thn Z (fun q hq => Or.inl (by simp at hq; omega))
        have HALL := Lib.hid (And.intro BX' (And.intro BR' (And.intro OG' (And.intro o5' (And.intro C3' O3')))))
        have y4 := BX.cell 4
        have z4 := BX.frozen 4
        clear BX' BR' OG' o5' C3' O3' Z BR OG C3 O3 G3 L hf o5 g5
        refine hK.out _ _ ?_ (fun hHeld => ?_)
        · trivial
        clear hK K
        (try simp only [pt_])
        refine tk (i := 9) (oi := ⟨some 37, _, _, _, _, _⟩) (v := ?v9_20) hHeld rfl ?y9_20 ?r9_20
        case y9_20 => (intro w _; first | (go_simp; done) | (go_simp; with_reducible rfl) | (with_reducible rfl))
        (try simp only [pt_])
        refine wpAnyH_ready (rs := [10]) (by kernel_rfl) (by simp) ?_
        refine AllReadyH.cons (o := { dst := none, op := _, type := _, pos := _, after := _, guard := _ }) rfl (fun K hK => ?_) ?_
        go_simp
        refine hK.out _ _ ?_ (fun hHeld => ?_)
        · trivial
        clear hK K
        (try simp only [pt_])
        refine wpAnyH_done (by kernel_rfl) ?_ _
        refine NoPanic.normal ?_
        rotate_left 1
        exact AllReadyH.nil
        exact AllReadyH.nil
        exact AllReadyH.nil
        exact AllReadyH.nil
        refine AllReadyH.cons (o := { dst := some 34, op := _, type := _, pos := _, after := _, guard := _ }) rfl (fun K hK => ?_) ?_
        go_simp
        refine (among_r g _ [-1, (i0 + i1 + (gn : Int))] (-1) 100 wl c1 (by omega) (by simp) (by simp) (by simp; omega)).mono ?_
        rintro e wm ⟨y, k4, rfl, y0, y1, q4, c4, o4⟩
        have bx4 := bx1.only o4 (by simp; omega)
        have br4 := br1.only o4 (by simp; omega)
        have og4 := og1.cur o4 (by omega)
        have oo4 := oo1.cur o4 (by omega)
        have v4 := v1.trans o4
        have s4 := Nat.le_trans s1 o4.size
        clear o4
        have x44 := bx4.cell 4
        have x45 : (wm.alloc (.cells #[.int .i64 y] 3)).cell? ⟨bx, 4, none⟩ = some (.slice oa on oc) := keepA _ x44
        refine hK.out _ _ ?_ (fun hHeld => ?_)
        · trivial
        clear hK K
        (try simp only [pt_])
        refine wpAnyH_ready (rs := [1, 7]) (by kernel_rfl) (by simp) ?_
        refine AllReadyH.cons (o := { dst := some 29, op := _, type := _, pos := _, after := _, guard := _ }) rfl (fun K hK => ?_) ?_
        go_simp
        refine hK.out _ _ ?_ (fun hHeld => ?_)
        · trivial
        clear hK K
        (try simp only [pt_])
        refine wpAnyH_ready (rs := [7]) (by kernel_rfl) (by simp) ?_
        refine AllReadyH.cons (o := { dst := some 35, op := _, type := _, pos := _, after := _, guard := _ }) rfl (fun K hK => ?_) ?_
        go_simp
        refine hK.out _ _ ?_ (fun hHeld => ?_)
        · trivial
        clear hK K
        (try simp only [pt_])
        refine wpAnyH_ready (rs := [8]) (by kernel_rfl) (by simp) ?_
        refine AllReadyH.cons (o := { dst := some 36, op := _, type := _, pos := _, after := _, guard := _ }) rfl (fun K hK => ?_) ?_
        refine step_appJ _ (by rfl) _ _ (by rfl) (w.heap.size + 1) oa on oc O (by rfl) (oo4.alloc _) _ 1 1 [y] (by rfl) (Ints.lit1 _ _ _) (by omega) (by simp; omega) ?_
        intro a5 c5 wA o5 u5 g5 hold5 m5
        clear hold5 u5
        have hbm := bx4.lt
        have D5 : Disj (foot a5 c5) [bx] := m5.disj (fun q hq hq' => by have := (Q_oo.out q hq).2; simp at hq'; omega) (fun q hq => by simp at hq; subst hq; simp; omega)
        clear m5
        have L := (Below.refl wm.heap.size wm).alloc (Nat.le_refl _) (.cells #[.int .i64 y] 3)
        have G3 : Only (foot oa oc) (wm.alloc (.cells #[.int .i64 y] 3)) wA := Only.of_grown g5
        have hf : ∀ q ∈ foot oa oc, w.heap.size + 1 ≤ q ∧ q < bx := fun q hq => ⟨(oo4.feet q hq).1, (Q_oo.out q hq).2⟩
        have BX := (bx4.below L).only G3 (by intro hm; have := hf _ hm; omega)
        have BR := (br4.below L).only G3 (by intro hm; have := hf _ hm; omega)
        have OG := (og4.below L).only G3 AP.out
        have C3 := (c4.below L).only G3 (fun q hq => by have := hf q hq; omega)
        have O3 : Only [g] w wA := (v4.trans (Only.of_below L)).thn G3 (fun q hq => Or.inl (by have := hf q hq; omega))
        have Z : Only [bx] wA (wA.setCell ⟨bx, 4, none⟩ (.slice a5 (on + 1) c5)) := (Only.refl _ _).setCell ⟨bx, 4, none⟩ _ (by simp)
        have BX' : Blk (wA.setCell ⟨bx, 4, none⟩ (.slice a5 (on + 1) c5)) bx 41 #[.int .i64 P, .int .i64 i0, .int .i64 i1, .slice ga gn gc, .slice a5 (on + 1) c5] := BX.set_ 4 (.slice a5 (on + 1) c5)
        have BR' := BR.only Z (by simp; omega)
        have OG' := OG.only Z (fun q hq hq' => by have := (Q_og.out q hq).2; simp at hq'; omega)
        have o5' := o5.only Z D5
        have C3' := C3.only Z (fun q hq => by simp at hq; omega)
        have O3' := O3.thn Z (fun q hq => Or.inl (by simp at hq; omega))
        have HALL := Lib.hid (And.intro BX' (And.intro BR' (And.intro OG' (And.intro o5' (And.intro C3' O3')))))
        have y4 := BX.cell 4
        have z4 := BX.frozen 4
        clear BX' BR' OG' o5' C3' O3' Z BR OG C3 O3 G3 L hf o5 g5
        refine hK.out _ _ ?_ (fun hHeld => ?_)
        · trivial
        clear hK K
        (try simp only [pt_])
        refine tk (i := 9) (oi := ⟨some 37, _, _, _, _, _⟩) (v := ?v9_21) hHeld rfl ?y9_21 ?r9_21
        case y9_21 => (intro w _; first | (go_simp; done) | (go_simp; with_reducible rfl) | (with_reducible rfl))
        (try simp only [pt_])
        refine wpAnyH_ready (rs := [10]) (by kernel_rfl) (by simp) ?_
        refine AllReadyH.cons (o := { dst := none, op := _, type := _, pos := _, after := _, guard := _ }) rfl (fun K hK => ?_) ?_
        go_simp
        refine hK.out _ _ ?_ (fun hHeld => ?_)
        · trivial
        clear hK K
        (try simp only [pt_])
        refine wpAnyH_done (by kernel_rfl) ?_ _
        refine NoPanic.normal ?_
        rotate_left 1
        exact AllReadyH.nil
        exact AllReadyH.nil
        exact AllReadyH.nil
        refine AllReadyH.cons (o := { dst := some 35, op := _, type := _, pos := _, after := _, guard := _ }) rfl (fun K hK => ?_) ?_
        go_simp
        refine hK.out _ _ ?_ (fun hHeld => ?_)
        · trivial
        clear hK K
        (try simp only [pt_])
        refine wpAnyH_ready (rs := [1]) (by kernel_rfl) (by simp) ?_
        refine AllReadyH.cons (o := { dst := some 29, op := _, type := _, pos := _, after := _, guard := _ }) rfl (fun K hK => ?_) ?_
        go_simp
        refine hK.out _ _ ?_ (fun hHeld => ?_)
        · trivial
        clear hK K
        (try simp only [pt_])
        refine wpAnyH_ready (rs := [8]) (by kernel_rfl) (by simp) ?_
        refine AllReadyH.cons (o := { dst := some 36, op := _, type := _, pos := _, after := _, guard := _ }) rfl (fun K hK => ?_) ?_
        refine step_appJ _ (by rfl) _ _ (by rfl) (w.heap.size + 1) oa on oc O (by rfl) (oo4.alloc _) _ 1 1 [y] (by rfl) (Ints.lit1 _ _ _) (by omega) (by simp; omega) ?_
        intro a5 c5 wA o5 u5 g5 hold5 m5
        clear hold5 u5
        have hbm := bx4.lt
        have D5 : Disj (foot a5 c5) [bx] := m5.disj (fun q hq hq' => by have := (Q_oo.out q hq).2; simp at hq'; omega) (fun q hq => by simp at hq; subst hq; simp; omega)
        clear m5
        have L := (Below.refl wm.heap.size wm).alloc (Nat.le_refl _) (.cells #[.int .i64 y] 3)
        have G3 : Only (foot oa oc) (wm.alloc (.cells #[.int .i64 y] 3)) wA := Only.of_grown g5
        have hf : ∀ q ∈ foot oa oc, w.heap.size + 1 ≤ q ∧ q < bx := fun q hq => ⟨(oo4.feet q hq).1, (Q_oo.out q hq).2⟩
        have BX := (bx4.below L).only G3 (by intro hm; have := hf _ hm; omega)
        have BR := (br4.below L).only G3 (by intro hm; have := hf _ hm; omega)
        have OG := (og4.below L).only G3 AP.out
        have C3 := (c4.below L).only G3 (fun q hq => by have := hf q hq; omega)
        have O3 : Only [g] w wA := (v4.trans (Only.of_below L)).thn G3 (fun q hq => Or.inl (by have := hf q hq; omega))
        have Z : Only [bx] wA (wA.setCell ⟨bx, 4, none⟩ (.slice a5 (on + 1) c5)) := (Only.refl _ _).setCell ⟨bx, 4, none⟩ _ (by simp)
        have BX' : Blk (wA.setCell ⟨bx, 4, none⟩ (.slice a5 (on + 1) c5)) bx 41 #[.int .i64 P, .int .i64 i0, .int .i64 i1, .slice ga gn gc, .slice a5 (on + 1) c5] := BX.set_ 4 (.slice a5 (on + 1) c5)
        have BR' := BR.only Z (by simp; omega)
        have OG' := OG.only Z (fun q hq hq' => by have := (Q_og.out q hq).2; simp at hq'; omega)
        have o5' := o5.only Z D5
        have C3' := C3.only Z (fun q hq => by simp at hq; omega)
        have O3' := O3.thn Z (fun q hq => Or.inl (by simp at hq; omega))
        have HALL := Lib.hid (And.intro BX' (And.intro BR' (And.intro OG' (And.intro o5' (And.intro C3' O3')))))
        have y4 := BX.cell 4
        have z4 := BX.frozen 4
        clear BX' BR' OG' o5' C3' O3' Z BR OG C3 O3 G3 L hf o5 g5
        refine hK.out _ _ ?_ (fun hHeld => ?_)
        · trivial
        clear hK K
        (try simp only [pt_])
        refine tk (i := 9) (oi := ⟨some 37, _, _, _, _, _⟩) (v := ?v9_22) hHeld rfl ?y9_22 ?r9_22
        case y9_22 => (intro w _; first | (go_simp; done) | (go_simp; with_reducible rfl) | (with_reducible rfl))
        (try simp only [pt_])
        refine wpAnyH_ready (rs := [10]) (by kernel_rfl) (by simp) ?_
        refine AllReadyH.cons (o := { dst := none, op := _, type := _, pos := _, after := _, guard := _ }) rfl (fun K hK => ?_) ?_
        go_simp
        refine hK.out _ _ ?_ (fun hHeld => ?_)
        · trivial
        clear hK K
        (try simp only [pt_])
        refine wpAnyH_done (by kernel_rfl) ?_ _
        refine NoPanic.normal ?_
        rotate_left 1
        exact AllReadyH.nil
        exact AllReadyH.nil
        exact AllReadyH.nil
        exact AllReadyH.nil
        exact AllReadyH.nil
        exact AllReadyH.nil
        exact AllReadyH.nil
        exact AllReadyH.nil
        all_goals
          obtain ⟨BX', BR', OG', O5', C3', V3'⟩ := HALL.out
          clear HALL
          replace B_x := BX'
          replace B_r := BR'
          replace og := OG'
          replace oo := O5'
          clear BX' BR' OG' O5' x4 x0' x1' x2' x3' x42 x43 x44 x45 y4 z4 bx1 br1 og1 oo1 c1 v1 bx4 br4 og4 oo4 c4 v4 BX D5 AP
          generalize (wA.setCell ⟨bx, 4, none⟩ (.slice a5 (on + 1) c5)) = wB at *




          have Q_oo := Lib.hid oo.feet
          have e_x_0 : wB.cell? ⟨bx, 0, none⟩ = some (.int .i64 P) := B_x.cell 0
          have e_x_1 : wB.cell? ⟨bx, 1, none⟩ = some (.int .i64 i0) := B_x.cell 1
          have e_x_2 : wB.cell? ⟨bx, 2, none⟩ = some (.int .i64 i1) := B_x.cell 2
          have e_x_3 : wB.cell? ⟨bx, 3, none⟩ = some (.slice ga gn gc) := B_x.cell 3
          have e_x_4 : wB.cell? ⟨bx, 4, none⟩ = some (.slice a5 (on + 1) c5) := B_x.cell 4
          have e_r_0 : wB.cell? ⟨w.heap.size, 0, none⟩ = some (.int .i64 0) := B_r.cell 0
          have f_r_0 := B_r.frozen 0
          have e_r_1 : wB.cell? ⟨w.heap.size, 1, none⟩ = some (.int .i64 0) := B_r.cell 1
          have f_r_1 := B_r.frozen 1
          have e_r_2 : wB.cell? ⟨w.heap.size, 2, none⟩ = some (.int .i64 0) := B_r.cell 2
          have f_r_2 := B_r.frozen 2
          have e_r_3 : wB.cell? ⟨w.heap.size, 3, none⟩ = some (.slice none 0 0) := B_r.cell 3
          have f_r_3 := B_r.frozen 3
          have e_r_4 : wB.cell? ⟨w.heap.size, 4, none⟩ = some (.slice none 0 0) := B_r.cell 4
          have f_r_4 := B_r.frozen 4
          go_wp2
          clear e_x_0 e_x_1 e_x_2 e_x_3 e_x_4 e_r_0 f_r_0 e_r_1 f_r_1 e_r_2 f_r_2 e_r_3 f_r_3 e_r_4 f_r_4
          have g_1 : Only [w.heap.size] wB (wB.setCell ⟨w.heap.size, 0, none⟩ (.int .i64 P)) := (Only.refl _ _).setCell _ _ (by simp)
          replace B_r := B_r.set_ 0 (.int .i64 P)
          generalize wB.setCell ⟨w.heap.size, 0, none⟩ (.int .i64 P) = w11_1' at *
          have G := g_1
          clear g_1
          have g_2 : Only [w.heap.size] w11_1' (w11_1'.setCell ⟨w.heap.size, 1, none⟩ (.int .i64 i0)) := (Only.refl _ _).setCell _ _ (by simp)
          replace B_r := B_r.set_ 1 (.int .i64 i0)
          generalize w11_1'.setCell ⟨w.heap.size, 1, none⟩ (.int .i64 i0) = w11_2' at *
          replace G := G.trans g_2
          clear g_2
          have g_3 : Only [w.heap.size] w11_2' (w11_2'.setCell ⟨w.heap.size, 2, none⟩ (.int .i64 i1)) := (Only.refl _ _).setCell _ _ (by simp)
          replace B_r := B_r.set_ 2 (.int .i64 i1)
          generalize w11_2'.setCell ⟨w.heap.size, 2, none⟩ (.int .i64 i1) = w11_3' at *
          replace G := G.trans g_3
          clear g_3
          have g_4 : Only [w.heap.size] w11_3' (w11_3'.setCell ⟨w.heap.size, 3, none⟩ (.slice ga gn gc)) := (Only.refl _ _).setCell _ _ (by simp)
          replace B_r := B_r.set_ 3 (.slice ga gn gc)
          generalize w11_3'.setCell ⟨w.heap.size, 3, none⟩ (.slice ga gn gc) = w11_4' at *
          replace G := G.trans g_4
          clear g_4
          have g_5 : Only [w.heap.size] w11_4' (w11_4'.setCell ⟨w.heap.size, 4, none⟩ (.slice a5 (on + 1) c5)) := (Only.refl _ _).setCell _ _ (by simp)
          replace B_r := B_r.set_ 4 (.slice a5 (on + 1) c5)
          generalize w11_4'.setCell ⟨w.heap.size, 4, none⟩ (.slice a5 (on + 1) c5) = w11' at *
          replace G := G.trans g_5
          clear g_5
          simp only [List.setIfInBounds_toArray, List.set_cons_zero, List.set_cons_succ] at B_r
          have V_w11' : Only [g] w w11' := (V3').thn G (fun q hq => Or.inl (by have := (V3').size; simp at hq; omega))
          have C_w11'_0 : Cur w11' g _ := C3'.only G (fun q hq => by simp at hq; omega)
          replace B_x := B_x.only G (by first | (simp; done) | (simp; omega))
          replace og := og.only G (fun q hq hq' => by have := Q_og.out q hq; simp at hq'; omega)
          replace oo := oo.only G (fun q hq hq' => by have := Q_oo.out q hq; simp at hq'; omega)
          have sG0 := G.size
          clear G
          clear V3'
          have S_w11' : wB.heap.size + 0 ≤ w11'.heap.size := by omega
          clear sG0
          have e_r_0 : w11'.cell? ⟨w.heap.size, 0, none⟩ = some (.int .i64 P) := B_r.cell 0
          have e_r_1 : w11'.cell? ⟨w.heap.size, 1, none⟩ = some (.int .i64 i0) := B_r.cell 1
          have e_r_2 : w11'.cell? ⟨w.heap.size, 2, none⟩ = some (.int .i64 i1) := B_r.cell 2
          have e_r_3 : w11'.cell? ⟨w.heap.size, 3, none⟩ = some (.slice ga gn gc) := B_r.cell 3
          have e_r_4 : w11'.cell? ⟨w.heap.size, 4, none⟩ = some (.slice a5 (on + 1) c5) := B_r.cell 4
          exact bodyPost_ret (v := .agg #[.int .i64 P, .int .i64 i0, .int .i64 i1, .slice ga gn gc, .slice a5 (on + 1) c5]) (by simp [results, Try.results60, go_sem, e_r_0, e_r_1, e_r_2, e_r_3, e_r_4]) rfl ⟨_, _, _, _, _, _, _, _, _, _, _, _, rfl, ⟨by omega, by omega⟩, ⟨by omega, by omega⟩, ⟨by omega, by omega⟩, by omega, by omega, og.lower (by omega), oo.lower (by omega), by omega, C_w11'_0, V_w11'⟩

      · have b2 : ((s == 2) : Bool) = false := by simpa using h2
        by_cases h3 : s = 3

        · subst h3
          by_cases hgn0 : (gn : Int) > 0

          · obtain ⟨gb, rfl, _, _, _⟩ := og.at 0 (by omega)
            have HGB : Hid (gb ∈ foot (some (⟨gb, 0, none⟩ : Addr)) gc) := Lib.hid (by have := og.cap; simp [foot, rowOf]; omega)
            have hgbx : w.heap.size + 1 ≤ gb ∧ gb < bx := Q_og.out gb HGB.out

            have e_x_0 : w4'.cell? ⟨bx, 0, none⟩ = some (.int .i64 P) := B_x.cell 0
            have e_x_1 : w4'.cell? ⟨bx, 1, none⟩ = some (.int .i64 i0) := B_x.cell 1
            have e_x_2 : w4'.cell? ⟨bx, 2, none⟩ = some (.int .i64 i1) := B_x.cell 2
            have e_x_3 : w4'.cell? ⟨bx, 3, none⟩ = some (.slice (some ⟨gb, 0, none⟩) gn gc) := B_x.cell 3
            have e_x_4 : w4'.cell? ⟨bx, 4, none⟩ = some (.slice oa on oc) := B_x.cell 4
            go_upto_region 12 with fail
            clear e_x_0 e_x_1 e_x_2 e_x_3 e_x_4
            refine wp_region_noPanic ?_
            refine wp_region_held_drew (S := (fun W => Blk W (bx) 41 #[.int .i64 P, .int .i64 i0, .int .i64 i1, .slice (some ⟨gb, 0, none⟩) gn gc, .slice oa on oc])) (by kernel_rfl) ?hS23 (fun hHeld => ?go23)
            case hS23 => exact B_x.drew
            refine tk (i := 0) (oi := ⟨some 42, _, _, _, _, _⟩) (v := ?v0_24) hHeld rfl ?y0_24 ?r0_24
            case y0_24 => (intro w _; first | (go_simp; done) | (go_simp; with_reducible rfl) | (with_reducible rfl))
            (try simp only [pt_])
            refine tk (i := 1) (oi := ⟨some 43, _, _, _, _, _⟩) (v := ?v1_25) hHeld rfl ?y1_25 ?r1_25
            case y1_25 => (intro w qS0; have cS0_0 := qS0.cell 0; have cS0_1 := qS0.cell 1; have cS0_2 := qS0.cell 2; have cS0_3 := qS0.cell 3; have cS0_4 := qS0.cell 4; first | (go_simp; done) | (go_simp; with_reducible rfl) | (with_reducible rfl))
            (try simp only [pt_])
            refine tk (i := 2) (oi := ⟨some 44, _, _, _, _, _⟩) (v := ?v2_26) hHeld rfl ?y2_26 ?r2_26
            case y2_26 => (intro w _; first | (go_simp; done) | (go_simp; with_reducible rfl) | (with_reducible rfl))
            (try simp only [pt_])
            refine tk (i := 3) (oi := ⟨some 45, _, _, _, _, _⟩) (v := ?v3_27) hHeld rfl ?y3_27 ?r3_27
            case y3_27 => (intro w _; first | (go_simp; done) | (go_simp; with_reducible rfl) | (with_reducible rfl))
            (try simp only [pt_])
            refine tk (i := 5) (oi := ⟨some 47, _, _, _, _, _⟩) (v := ?v5_28) hHeld rfl ?y5_28 ?r5_28
            case y5_28 => (intro w _; first | (go_simp; done) | (go_simp; with_reducible rfl) | (with_reducible rfl))
            (try simp only [pt_])
            refine tk (i := 8) (oi := ⟨some 50, _, _, _, _, _⟩) (v := ?v8_29) hHeld rfl ?y8_29 ?r8_29
            case y8_29 => (intro w _; first | (go_simp; done) | (go_simp; with_reducible rfl) | (with_reducible rfl))
            (try simp only [pt_])
            refine tk (i := 10) (oi := ⟨some 52, _, _, _, _, _⟩) (v := ?v10_30) hHeld rfl ?y10_30 ?r10_30
            case y10_30 => (intro w _; first | (go_simp; done) | (go_simp; with_reducible rfl) | (with_reducible rfl))
            (try simp only [pt_])
            refine wpAnyH_ready (rs := [4]) (by kernel_rfl) (by simp) ?_
            refine AllReadyH.cons (o := { dst := some 46, op := _, type := _, pos := _, after := _, guard := _ }) rfl (fun K hK => ?_) ?_
            go_simp
            refine (pick_any g _ (gn : Int) _ (Cur.drew C_w4') (by omega)).mono ?_
            rintro e wa ⟨jj, k4, rfl, jj0, jj1, jj2, q4, c4, o4⟩
            obtain ⟨j, rfl⟩ : ∃ q : Nat, jj = q := ⟨jj.toNat, by omega⟩
            have hj : j < gn := by omega
            have hji : (j : Int) < (gn : Int) := by omega
            clear jj1
            have bx4 := (Blk.drew B_x).only o4 (by simp; omega)
            have br4 := (Blk.drew B_r).only o4 (by simp; omega)
            have og4 := og.drew.cur o4 (by omega)
            have oo4 := oo.drew.cur o4 (by omega)
            have v4 := (V_w4'.trans (Only.of_below ((Below.refl _ _).drew))).trans o4
            clear o4
            refine hK.out _ _ ?_ (fun hHeld => ?_)
            · exact bx4
            clear hK K
            (try simp only [pt_])
            refine wpAnyH_ready (rs := [6]) (by kernel_rfl) (by simp) ?_
            refine AllReadyH.cons (o := { dst := some 48, op := _, type := _, pos := _, after := _, guard := _ }) rfl (fun K hK => ?_) ?_
            go_simp
            refine (pick_any g _ (6) _ c4 (by omega)).mono ?_
            rintro e wb ⟨kd, k6, rfl, kd0, kd1, kd2, q6, c6, o6⟩
            have wk : IntKind.i64.wrap (kd - 1) = kd - 1 := IntWalk.i64_in _ (by omega)
            clear kd1
            have bx6 := bx4.only o6 (by simp; omega)
            have br6 := br4.only o6 (by simp; omega)
            have og6 := og4.cur o6 (by omega)
            have oo6 := oo4.cur o6 (by omega)
            have v6 := v4.trans o6
            clear o6
            refine hK.out _ _ ?_ (fun hHeld => ?_)
            · exact bx6
            clear hK K
            (try simp only [pt_])
            refine tk (i := 7) (oi := ⟨some 49, _, _, _, _, _⟩) (v := ?v7_31) hHeld rfl ?y7_31 ?r7_31
            case y7_31 => (intro w _; first | (go_simp; done) | (go_simp; with_reducible rfl) | (with_reducible rfl))
            (try simp only [pt_])
            refine wpAnyH_ready (rs := [9]) (by kernel_rfl) (by simp) ?_
            refine AllReadyH.cons (o := { dst := some 51, op := _, type := _, pos := _, after := _, guard := _ }) rfl (fun K hK => ?_) ?_
            go_simp
            refine (pick_any g _ (9) _ c6 (by omega)).mono ?_
            rintro e wd ⟨ka, k9, rfl, ka0, ka1, ka2, q9, c9, o9⟩
            clear ka1
            have bx9 := bx6.only o9 (by simp; omega)
            have br9 := br6.only o9 (by simp; omega)
            have og9 := og6.cur o9 (by omega)
            have oo9 := oo6.cur o9 (by omega)
            have v9 := v6.trans o9
            clear o9
            refine hK.out _ _ ?_ (fun hHeld => ?_)
            · exact bx9
            clear hK K
            (try simp only [pt_])
            refine wpAnyH_ready (rs := [11]) (by kernel_rfl) (by simp) ?_
            refine AllReadyH.cons (o := { dst := some 53, op := _, type := _, pos := _, after := _, guard := _ }) rfl (fun K hK => ?_) ?_
            go_simp
            refine (pick_any g _ (3) _ c9 (by omega)).mono ?_
            rintro e we ⟨kb, k11, rfl, kb0, kb1, kb2, q11, c11, o11⟩
            clear kb1
            have bx11 := bx9.only o11 (by simp; omega)
            have br11 := br9.only o11 (by simp; omega)
            have og11 := og9.cur o11 (by omega)
            have oo11 := oo9.cur o11 (by omega)
            have v11 := v9.trans o11
            clear o11
            refine hK.out _ _ ?_ (fun hHeld => ?_)
            · exact bx11
            clear hK K
            (try simp only [pt_])
            refine tk (i := 12) (oi := ⟨some 54, _, _, _, _, _⟩) (v := ?v12_32) hHeld rfl ?y12_32 ?r12_32
            case y12_32 => (intro w _; first | (go_simp; done) | (go_simp; with_reducible rfl) | (with_reducible rfl))
            (try simp only [pt_])
            refine tk (i := 13) (oi := ⟨some 55, _, _, _, _, _⟩) (v := ?v13_33) hHeld rfl ?y13_33 ?r13_33
            case y13_33 => (intro w _; first | (go_simp; done) | (go_simp; with_reducible rfl) | (with_reducible rfl))
            (try simp only [pt_])
            refine wpAnyH_ready (rs := [14]) (by kernel_rfl) (by simp) ?_
            refine AllReadyH.cons (o := { dst := none, op := _, type := _, pos := _, after := _, guard := _ }) rfl (fun K hK => ?_) ?_
            have Z : Only [gb] we (((we.setCell ⟨gb, j * 3, none⟩ (.int .i64 (kd - 1))).setCell ⟨gb, j * 3 + 1, none⟩ (.int .i64 ka)).setCell ⟨gb, j * 3 + 2, none⟩ (.int .i64 kb)) := (((Only.refl _ _).setCell _ _ (by simp)).setCell _ _ (by simp)).setCell _ _ (by simp)
            have KZ := bx11.only Z (by simp; omega)
            have RZ := br11.only Z (by simp; omega)
            have GZ : OwnF 3 eGate (((we.setCell ⟨gb, j * 3, none⟩ (.int .i64 (kd - 1))).setCell ⟨gb, j * 3 + 1, none⟩ (.int .i64 ka)).setCell ⟨gb, j * 3 + 2, none⟩ (.int .i64 kb)) (w.heap.size + 1) (some ⟨gb, 0, none⟩) gn gc (((G.set (j * 3) (kd - 1)).set (j * 3 + 1) ka).set (j * 3 + 2) kb) := ((og11.put (j * 3) (by omega) (kd - 1)).put (j * 3 + 1) (by omega) ka).put (j * 3 + 2) (by omega) kb
            have OZ := oo11.only Z (fun q hq hq' => AP.out q (by simp at hq'; subst hq'; exact HGB.out) hq)
            have CZ := c11.only Z (fun q hq => by simp at hq; omega)
            have VZ := v11.thn Z (fun q hq => Or.inl (by simp at hq; omega))
            obtain ⟨y0, z0⟩ := og11.cf (j * 3) (by omega)
            obtain ⟨y1, z1⟩ := og11.cf (j * 3 + 1) (by omega)
            obtain ⟨y2, z2⟩ := og11.cf (j * 3 + 2) (by omega)
            have HALL := Lib.hid (And.intro KZ (And.intro RZ (And.intro GZ (And.intro OZ (And.intro CZ VZ)))))
            clear RZ GZ OZ CZ VZ Z
            go_simp
            clear y0 z0 y1 z1 y2 z2
            refine hK.out _ _ ?_ (fun hHeld => ?_)
            · exact KZ
            clear hK K
            (try simp only [pt_])
            refine wpAnyH_done (by kernel_rfl) ?_ _
            refine NoPanic.normal ?_
            rotate_left 1
            exact AllReadyH.nil
            exact AllReadyH.nil
            exact AllReadyH.nil
            exact AllReadyH.nil
            exact AllReadyH.nil
            obtain ⟨BX', BR', OG', O5', C3', V3'⟩ := HALL.out
            clear HALL KZ
            replace B_x := BX'
            replace B_r := BR'
            replace og := OG'
            replace oo := O5'
            clear BX' BR' OG' O5' bx4 br4 og4 oo4 c4 v4 bx6 br6 og6 oo6 c6 v6 bx9 br9 og9 oo9 c9 v9 bx11 br11 og11 oo11 c11 v11 AP
            generalize (((we.setCell ⟨gb, j * 3, none⟩ (.int .i64 (kd - 1))).setCell ⟨gb, j * 3 + 1, none⟩ (.int .i64 ka)).setCell ⟨gb, j * 3 + 2, none⟩ (.int .i64 kb)) = wB at *




            have e_x_0 : wB.cell? ⟨bx, 0, none⟩ = some (.int .i64 P) := B_x.cell 0
            have e_x_1 : wB.cell? ⟨bx, 1, none⟩ = some (.int .i64 i0) := B_x.cell 1
            have e_x_2 : wB.cell? ⟨bx, 2, none⟩ = some (.int .i64 i1) := B_x.cell 2
            have e_x_3 : wB.cell? ⟨bx, 3, none⟩ = some (.slice (some ⟨gb, 0, none⟩) gn gc) := B_x.cell 3
            have e_x_4 : wB.cell? ⟨bx, 4, none⟩ = some (.slice oa on oc) := B_x.cell 4
            have e_r_0 : wB.cell? ⟨w.heap.size, 0, none⟩ = some (.int .i64 0) := B_r.cell 0
            have f_r_0 := B_r.frozen 0
            have e_r_1 : wB.cell? ⟨w.heap.size, 1, none⟩ = some (.int .i64 0) := B_r.cell 1
            have f_r_1 := B_r.frozen 1
            have e_r_2 : wB.cell? ⟨w.heap.size, 2, none⟩ = some (.int .i64 0) := B_r.cell 2
            have f_r_2 := B_r.frozen 2
            have e_r_3 : wB.cell? ⟨w.heap.size, 3, none⟩ = some (.slice none 0 0) := B_r.cell 3
            have f_r_3 := B_r.frozen 3
            have e_r_4 : wB.cell? ⟨w.heap.size, 4, none⟩ = some (.slice none 0 0) := B_r.cell 4
            have f_r_4 := B_r.frozen 4
            go_wp2
            clear e_x_0 e_x_1 e_x_2 e_x_3 e_x_4 e_r_0 f_r_0 e_r_1 f_r_1 e_r_2 f_r_2 e_r_3 f_r_3 e_r_4 f_r_4
            have g_1 : Only [w.heap.size] wB (wB.setCell ⟨w.heap.size, 0, none⟩ (.int .i64 P)) := (Only.refl _ _).setCell _ _ (by simp)
            replace B_r := B_r.set_ 0 (.int .i64 P)
            generalize wB.setCell ⟨w.heap.size, 0, none⟩ (.int .i64 P) = w12_1' at *
            have G := g_1
            clear g_1
            have g_2 : Only [w.heap.size] w12_1' (w12_1'.setCell ⟨w.heap.size, 1, none⟩ (.int .i64 i0)) := (Only.refl _ _).setCell _ _ (by simp)
            replace B_r := B_r.set_ 1 (.int .i64 i0)
            generalize w12_1'.setCell ⟨w.heap.size, 1, none⟩ (.int .i64 i0) = w12_2' at *
            replace G := G.trans g_2
            clear g_2
            have g_3 : Only [w.heap.size] w12_2' (w12_2'.setCell ⟨w.heap.size, 2, none⟩ (.int .i64 i1)) := (Only.refl _ _).setCell _ _ (by simp)
            replace B_r := B_r.set_ 2 (.int .i64 i1)
            generalize w12_2'.setCell ⟨w.heap.size, 2, none⟩ (.int .i64 i1) = w12_3' at *
            replace G := G.trans g_3
            clear g_3
            have g_4 : Only [w.heap.size] w12_3' (w12_3'.setCell ⟨w.heap.size, 3, none⟩ (.slice (some ⟨gb, 0, none⟩) gn gc)) := (Only.refl _ _).setCell _ _ (by simp)
            replace B_r := B_r.set_ 3 (.slice (some ⟨gb, 0, none⟩) gn gc)
            generalize w12_3'.setCell ⟨w.heap.size, 3, none⟩ (.slice (some ⟨gb, 0, none⟩) gn gc) = w12_4' at *
            replace G := G.trans g_4
            clear g_4
            have g_5 : Only [w.heap.size] w12_4' (w12_4'.setCell ⟨w.heap.size, 4, none⟩ (.slice oa on oc)) := (Only.refl _ _).setCell _ _ (by simp)
            replace B_r := B_r.set_ 4 (.slice oa on oc)
            generalize w12_4'.setCell ⟨w.heap.size, 4, none⟩ (.slice oa on oc) = w12' at *
            replace G := G.trans g_5
            clear g_5
            simp only [List.setIfInBounds_toArray, List.set_cons_zero, List.set_cons_succ] at B_r
            have V_w12' : Only [g] w w12' := (V3').thn G (fun q hq => Or.inl (by have := (V3').size; simp at hq; omega))
            have C_w12'_0 : Cur w12' g _ := C3'.only G (fun q hq => by simp at hq; omega)
            replace B_x := B_x.only G (by first | (simp; done) | (simp; omega))
            replace og := og.only G (fun q hq hq' => by have := Q_og.out q hq; simp at hq'; omega)
            replace oo := oo.only G (fun q hq hq' => by have := Q_oo.out q hq; simp at hq'; omega)
            have sG0 := G.size
            clear G
            clear V3'
            have S_w12' : wB.heap.size + 0 ≤ w12'.heap.size := by omega
            clear sG0
            have e_r_0 : w12'.cell? ⟨w.heap.size, 0, none⟩ = some (.int .i64 P) := B_r.cell 0
            have e_r_1 : w12'.cell? ⟨w.heap.size, 1, none⟩ = some (.int .i64 i0) := B_r.cell 1
            have e_r_2 : w12'.cell? ⟨w.heap.size, 2, none⟩ = some (.int .i64 i1) := B_r.cell 2
            have e_r_3 : w12'.cell? ⟨w.heap.size, 3, none⟩ = some (.slice (some ⟨gb, 0, none⟩) gn gc) := B_r.cell 3
            have e_r_4 : w12'.cell? ⟨w.heap.size, 4, none⟩ = some (.slice oa on oc) := B_r.cell 4
            exact bodyPost_ret (v := .agg #[.int .i64 P, .int .i64 i0, .int .i64 i1, .slice (some ⟨gb, 0, none⟩) gn gc, .slice oa on oc]) (by simp [results, Try.results60, go_sem, e_r_0, e_r_1, e_r_2, e_r_3, e_r_4]) rfl ⟨_, _, _, _, _, _, _, _, _, _, _, _, rfl, ⟨by omega, by omega⟩, ⟨by omega, by omega⟩, ⟨by omega, by omega⟩, by omega, by omega, og.lower (by omega), oo.lower (by omega), by omega, C_w12'_0, V_w12'⟩

          · have d1 : decide ((gn : Int) > 0) = false := decide_eq_false hgn0
            have e_x_0 : w4'.cell? ⟨bx, 0, none⟩ = some (.int .i64 P) := B_x.cell 0
            have e_x_1 : w4'.cell? ⟨bx, 1, none⟩ = some (.int .i64 i0) := B_x.cell 1
            have e_x_2 : w4'.cell? ⟨bx, 2, none⟩ = some (.int .i64 i1) := B_x.cell 2
            have e_x_3 : w4'.cell? ⟨bx, 3, none⟩ = some (.slice ga gn gc) := B_x.cell 3
            have e_x_4 : w4'.cell? ⟨bx, 4, none⟩ = some (.slice oa on oc) := B_x.cell 4
            have e_r_0 : w4'.cell? ⟨w.heap.size, 0, none⟩ = some (.int .i64 0) := B_r.cell 0
            have f_r_0 := B_r.frozen 0
            have e_r_1 : w4'.cell? ⟨w.heap.size, 1, none⟩ = some (.int .i64 0) := B_r.cell 1
            have f_r_1 := B_r.frozen 1
            have e_r_2 : w4'.cell? ⟨w.heap.size, 2, none⟩ = some (.int .i64 0) := B_r.cell 2
            have f_r_2 := B_r.frozen 2
            have e_r_3 : w4'.cell? ⟨w.heap.size, 3, none⟩ = some (.slice none 0 0) := B_r.cell 3
            have f_r_3 := B_r.frozen 3
            have e_r_4 : w4'.cell? ⟨w.heap.size, 4, none⟩ = some (.slice none 0 0) := B_r.cell 4
            have f_r_4 := B_r.frozen 4
            go_wp2
            clear e_x_0 e_x_1 e_x_2 e_x_3 e_x_4 e_r_0 f_r_0 e_r_1 f_r_1 e_r_2 f_r_2 e_r_3 f_r_3 e_r_4 f_r_4
            have g_1 : Only [w.heap.size] w4' (w4'.setCell ⟨w.heap.size, 0, none⟩ (.int .i64 P)) := (Only.refl _ _).setCell _ _ (by simp)
            replace B_r := B_r.set_ 0 (.int .i64 P)
            generalize w4'.setCell ⟨w.heap.size, 0, none⟩ (.int .i64 P) = w13_1' at *
            have G := g_1
            clear g_1
            have g_2 : Only [w.heap.size] w13_1' (w13_1'.setCell ⟨w.heap.size, 1, none⟩ (.int .i64 i0)) := (Only.refl _ _).setCell _ _ (by simp)
            replace B_r := B_r.set_ 1 (.int .i64 i0)
            generalize w13_1'.setCell ⟨w.heap.size, 1, none⟩ (.int .i64 i0) = w13_2' at *
            replace G := G.trans g_2
            clear g_2
            have g_3 : Only [w.heap.size] w13_2' (w13_2'.setCell ⟨w.heap.size, 2, none⟩ (.int .i64 i1)) := (Only.refl _ _).setCell _ _ (by simp)
            replace B_r := B_r.set_ 2 (.int .i64 i1)
            generalize w13_2'.setCell ⟨w.heap.size, 2, none⟩ (.int .i64 i1) = w13_3' at *
            replace G := G.trans g_3
            clear g_3
            have g_4 : Only [w.heap.size] w13_3' (w13_3'.setCell ⟨w.heap.size, 3, none⟩ (.slice ga gn gc)) := (Only.refl _ _).setCell _ _ (by simp)
            replace B_r := B_r.set_ 3 (.slice ga gn gc)
            generalize w13_3'.setCell ⟨w.heap.size, 3, none⟩ (.slice ga gn gc) = w13_4' at *
            replace G := G.trans g_4
            clear g_4
            have g_5 : Only [w.heap.size] w13_4' (w13_4'.setCell ⟨w.heap.size, 4, none⟩ (.slice oa on oc)) := (Only.refl _ _).setCell _ _ (by simp)
            replace B_r := B_r.set_ 4 (.slice oa on oc)
            generalize w13_4'.setCell ⟨w.heap.size, 4, none⟩ (.slice oa on oc) = w13' at *
            replace G := G.trans g_5
            clear g_5
            simp only [List.setIfInBounds_toArray, List.set_cons_zero, List.set_cons_succ] at B_r
            have V_w13' : Only [g] w w13' := (V_w4').thn G (fun q hq => Or.inl (by have := (V_w4').size; simp at hq; omega))
            have C_w13'_0 : Cur w13' g _ := C_w4'.only G (fun q hq => by simp at hq; omega)
            replace B_x := B_x.only G (by first | (simp; done) | (simp; omega))
            replace og := og.only G (fun q hq hq' => by have := Q_og.out q hq; simp at hq'; omega)
            replace oo := oo.only G (fun q hq hq' => by have := Q_oo.out q hq; simp at hq'; omega)
            have sG0 := G.size
            clear G
            clear V_w4'
            have S_w13' : w4'.heap.size + 0 ≤ w13'.heap.size := by omega
            clear sG0
            have e_r_0 : w13'.cell? ⟨w.heap.size, 0, none⟩ = some (.int .i64 P) := B_r.cell 0
            have e_r_1 : w13'.cell? ⟨w.heap.size, 1, none⟩ = some (.int .i64 i0) := B_r.cell 1
            have e_r_2 : w13'.cell? ⟨w.heap.size, 2, none⟩ = some (.int .i64 i1) := B_r.cell 2
            have e_r_3 : w13'.cell? ⟨w.heap.size, 3, none⟩ = some (.slice ga gn gc) := B_r.cell 3
            have e_r_4 : w13'.cell? ⟨w.heap.size, 4, none⟩ = some (.slice oa on oc) := B_r.cell 4
            exact bodyPost_ret (v := .agg #[.int .i64 P, .int .i64 i0, .int .i64 i1, .slice ga gn gc, .slice oa on oc]) (by simp [results, Try.results60, go_sem, e_r_0, e_r_1, e_r_2, e_r_3, e_r_4]) rfl ⟨_, _, _, _, _, _, _, _, _, _, _, _, rfl, ⟨by omega, by omega⟩, ⟨by omega, by omega⟩, ⟨by omega, by omega⟩, by omega, by omega, og.lower (by omega), oo.lower (by omega), by omega, C_w13'_0, V_w13'⟩

        · have b3 : ((s == 3) : Bool) = false := by simpa using h3
          by_cases h4 : s = 4

          · subst h4
            clear og
            clear oo
            clear Q_og Q_oo AP
            have B9 := Blk.alloc B_x (.cells #[.int .i64 1] 3)
            have e90 := B9.cell 0
            have f90 := B9.frozen 0
            have e91 := B9.cell 1
            have f91 := B9.frozen 1
            have e92 := B9.cell 2
            have f92 := B9.frozen 2
            have e93 := B9.cell 3
            have f93 := B9.frozen 3
            have e94 := B9.cell 4
            have f94 := B9.frozen 4
            go_upto_region 15 with fail
            clear e90 f90 e91 f91 e92 f92 e93 f93 e94 f94 B9
            generalize hbl : w4'.heap.size = bl at *
            have hbl0 : bx < bl := by omega
            have oo : Own (w4'.alloc (.cells #[.int .i64 1] 3)) w4'.heap.size (some ⟨w4'.heap.size, 0, none⟩) 1 1 [1] := Own.lit w4' w4'.heap.size [1] (Nat.le_refl _) (by simp [maxLen])
            replace B_r := Blk.alloc B_r (.cells #[.int .i64 1] 3)
            replace B_x := Blk.alloc B_x (.cells #[.int .i64 1] 3)
            have C_w14' : Cur (w4'.alloc (.cells #[.int .i64 1] 3)) g _ := C_w4'.alloc _
            have V_w14' : Only [g] w (w4'.alloc (.cells #[.int .i64 1] 3)) := V_w4'.alloc _
            have S_w14' : w4'.heap.size < (w4'.alloc (.cells #[.int .i64 1] 3)).heap.size := by simp
            generalize (w4'.alloc (.cells #[.int .i64 1] 3)) = w14' at *
            clear V_w4'
            rw [hbl] at oo
            have Q_oo := Lib.hid oo.feet
            have g_1 : Only [bx] w14' (w14'.setCell ⟨bx, 0, none⟩ (.int .i64 5)) := (Only.refl _ _).setCell _ _ (by simp)
            replace B_x := B_x.set_ 0 (.int .i64 5)
            generalize w14'.setCell ⟨bx, 0, none⟩ (.int .i64 5) = w15_1' at *
            have G := g_1
            clear g_1
            have g_2 : Only [bx] w15_1' (w15_1'.setCell ⟨bx, 1, none⟩ (.int .i64 1)) := (Only.refl _ _).setCell _ _ (by simp)
            replace B_x := B_x.set_ 1 (.int .i64 1)
            generalize w15_1'.setCell ⟨bx, 1, none⟩ (.int .i64 1) = w15_2' at *
            replace G := G.trans g_2
            clear g_2
            have g_3 : Only [bx] w15_2' (w15_2'.setCell ⟨bx, 2, none⟩ (.int .i64 0)) := (Only.refl _ _).setCell _ _ (by simp)
            replace B_x := B_x.set_ 2 (.int .i64 0)
            generalize w15_2'.setCell ⟨bx, 2, none⟩ (.int .i64 0) = w15_3' at *
            replace G := G.trans g_3
            clear g_3
            have g_4 : Only [bx] w15_3' (w15_3'.setCell ⟨bx, 3, none⟩ (.slice none 0 0)) := (Only.refl _ _).setCell _ _ (by simp)
            replace B_x := B_x.set_ 3 (.slice none 0 0)
            generalize w15_3'.setCell ⟨bx, 3, none⟩ (.slice none 0 0) = w15_4' at *
            replace G := G.trans g_4
            clear g_4
            have g_5 : Only [bx] w15_4' (w15_4'.setCell ⟨bx, 4, none⟩ (.slice (some ⟨bl, 0, none⟩) 1 1)) := (Only.refl _ _).setCell _ _ (by simp)
            replace B_x := B_x.set_ 4 (.slice (some ⟨bl, 0, none⟩) 1 1)
            generalize w15_4'.setCell ⟨bx, 4, none⟩ (.slice (some ⟨bl, 0, none⟩) 1 1) = w15' at *
            replace G := G.trans g_5
            clear g_5
            simp only [List.setIfInBounds_toArray, List.set_cons_zero, List.set_cons_succ] at B_x
            have V_w15' : Only [g] w w15' := (V_w14').thn G (fun q hq => Or.inl (by have := (V_w14').size; simp at hq; omega))
            have C_w15'_0 : Cur w15' g _ := C_w14'.only G (fun q hq => by simp at hq; omega)
            replace B_r := B_r.only G (by first | (simp; done) | (simp; omega))
            replace oo := oo.only G (fun q hq hq' => by have := Q_oo.out q hq; simp at hq'; omega)
            have sG0 := G.size
            clear G
            clear V_w14'
            have S_w15' : w14'.heap.size + 0 ≤ w15'.heap.size := by omega
            clear sG0
            have HOO : Hid (∀ q ∈ foot (some (⟨bl, 0, none⟩ : Addr)) 1, q = bl) := Lib.hid (by simp [foot, rowOf])
            have og : OwnF 3 eGate w15' (bl + 1) none 0 0 [] := OwnC.nil0 _ _ _ _ _
            have hbl1 : bl < w15'.heap.size := by omega
            clear hbl
            go_wp2
            go_loopw [5] (fun v wr => ∃ i : Nat, i ≤ 21 ∧ v = .int .i64 i ∧ Only [g] w wr ∧ bl < wr.heap.size ∧ ∃ (ga2 : Option Addr) (gc2 : Nat) (G2 : List Int) (kk : Nat), Blk wr w.heap.size 41 #[.int .i64 0, .int .i64 0, .int .i64 0, .slice none 0 0, .slice none 0 0] ∧ Blk wr bx 41 #[.int .i64 5, .int .i64 1, .int .i64 0, .slice ga2 i gc2, .slice (some ⟨bl, 0, none⟩) 1 1] ∧ OwnF 3 eGate wr (bl + 1) ga2 i gc2 G2 ∧ Own wr bl (some ⟨bl, 0, none⟩) 1 1 [1] ∧ kk ≤ k + 200 + 2 * i ∧ Cur wr g kk) (fun v _ => 21 - (intOf v).toNat)
            case atStart => exact ⟨0, by omega, rfl, V_w15', by omega, none, 0, [], _, B_r, B_x, og, oo, by omega, C_w15'_0⟩
            case round =>
              clear B_r B_x og oo
              obtain ⟨i, hi, rfl, hO, hbw, ga2, gc2, G2, k', B_r, B_x, og, oo, hk', hc⟩ := hrel





              go_wp2_with fail
              refine (pick_any g _ 4 _ hc (by omega)).mono ?_
              rintro e w16' ⟨v, k_w16', rfl, v0, v1, v2, q_w16', C_w16', o_w16'⟩
              have V_w16' := hO.trans o_w16'
              replace oo := oo.cur o_w16' (by omega)
              replace og := og.cur o_w16' (by omega)
              replace B_r := B_r.only o_w16' (by simp; omega)
              replace B_x := B_x.only o_w16' (by simp; omega)
              have S_w16' := o_w16'.size
              clear o_w16' hO
              have v3 : v ≤ 3 := by omega
              clear v1
              by_cases hlt : (i : Int) < 18 + v

              · skip
                have e_x_0 : w16'.cell? ⟨bx, 0, none⟩ = some (.int .i64 5) := B_x.cell 0
                have f_x_0 := B_x.frozen 0
                have e_x_1 : w16'.cell? ⟨bx, 1, none⟩ = some (.int .i64 1) := B_x.cell 1
                have f_x_1 := B_x.frozen 1
                have e_x_2 : w16'.cell? ⟨bx, 2, none⟩ = some (.int .i64 0) := B_x.cell 2
                have f_x_2 := B_x.frozen 2
                have e_x_3 : w16'.cell? ⟨bx, 3, none⟩ = some (.slice ga2 i gc2) := B_x.cell 3
                have f_x_3 := B_x.frozen 3
                have e_x_4 : w16'.cell? ⟨bx, 4, none⟩ = some (.slice (some ⟨bl, 0, none⟩) 1 1) := B_x.cell 4
                have f_x_4 := B_x.frozen 4
                go_wp2_with (at_builtin; refine wpList_appG _ rfl _ _ rfl (bl + 1) ga2 i gc2 G2 rfl (og.alloc _) (some ⟨w16'.heap.size, 0, none⟩) 1 1 (i : Int) (i : Int) rfl (RowC.gate w16' 1 (i : Int) (i : Int) _) (by omega) (by simp; omega) ?_)
                clear e_x_0 f_x_0 e_x_1 f_x_1 e_x_2 f_x_2 e_x_3 f_x_3 e_x_4 f_x_4
                intro a5 c5 wA o5 g5 m5
                clear m5
                have L := (Below.refl w16'.heap.size w16').alloc (Nat.le_refl _) (.cells #[.int .i64 1, .int .i64 (i : Int), .int .i64 (i : Int)] 78)
                have G3 : Only (foot ga2 gc2) (w16'.alloc (.cells #[.int .i64 1, .int .i64 (i : Int), .int .i64 (i : Int)] 78)) wA := Only.of_grown g5
                have hf : ∀ q ∈ foot ga2 gc2, bl < q := fun q hq => by have := (og.feet q hq).1; omega
                have BX := (B_x.below L).only G3 (by intro hm; have := hf _ hm; omega)
                have BR := (B_r.below L).only G3 (by intro hm; have := hf _ hm; omega)
                have OO := (oo.below L).only G3 (fun q hq hq' => by have := HOO.out q hq; have := hf q hq'; omega)
                have C3 := (C_w16'.below L).only G3 (fun q hq => by have := hf q hq; omega)
                have O3 : Only [g] w wA := (V_w16'.trans (Only.of_below L)).thn G3 (fun q hq => Or.inl (by have := hf q hq; omega))
                have HS3 : bl < wA.heap.size := by have := L.size; have := G3.size; omega
                have Z : Only [bx] wA (wA.setCell ⟨bx, 3, none⟩ (.slice a5 (i + 1) c5)) := (Only.refl _ _).setCell ⟨bx, 3, none⟩ _ (by simp)
                have BX' : Blk (wA.setCell ⟨bx, 3, none⟩ (.slice a5 (i + 1) c5)) bx 41 #[.int .i64 5, .int .i64 1, .int .i64 0, .slice a5 (i + 1) c5, .slice (some ⟨bl, 0, none⟩) 1 1] := BX.set_ 3 (.slice a5 (i + 1) c5)
                have BR' := BR.only Z (by simp; omega)
                have OO' := OO.only Z (fun q hq hq' => by have := HOO.out q hq; simp at hq'; omega)
                have o5' := o5.only Z (fun q hq hq' => by have := (o5.feet q hq).1; simp at hq'; omega)
                have C3' := C3.only Z (fun q hq => by simp at hq; omega)
                have O3' := O3.thn Z (fun q hq => Or.inl (by simp at hq; omega))
                have HS3' : bl < (wA.setCell ⟨bx, 3, none⟩ (.slice a5 (i + 1) c5)).heap.size := by have := Z.size; omega
                have HALL := Lib.hid (And.intro BX' (And.intro BR' (And.intro OO' (And.intro o5' (And.intro C3' (And.intro O3' HS3'))))))
                have y3 := BX.cell 3
                have z3 := BX.frozen 3
                clear BX' BR' OO' o5' C3' O3' HS3' Z BR C3 O3 G3 L hf og oo OO g5 o5
                go_wp2
                go_roundw
                case rel => exact ⟨i + 1, by omega, by go_num, HALL.out.2.2.2.2.2.1, HALL.out.2.2.2.2.2.2, a5, c5, _, _, HALL.out.2.1, HALL.out.1, HALL.out.2.2.2.1, HALL.out.2.2.1, by omega, HALL.out.2.2.2.2.1⟩
                case measure => simp [intOf]; omega

              · skip
                have Q_og := Lib.hid og.feet
                have Q_oo := Lib.hid oo.feet
                have e_x_0 : w16'.cell? ⟨bx, 0, none⟩ = some (.int .i64 5) := B_x.cell 0
                have e_x_1 : w16'.cell? ⟨bx, 1, none⟩ = some (.int .i64 1) := B_x.cell 1
                have e_x_2 : w16'.cell? ⟨bx, 2, none⟩ = some (.int .i64 0) := B_x.cell 2
                have e_x_3 : w16'.cell? ⟨bx, 3, none⟩ = some (.slice ga2 i gc2) := B_x.cell 3
                have e_x_4 : w16'.cell? ⟨bx, 4, none⟩ = some (.slice (some ⟨bl, 0, none⟩) 1 1) := B_x.cell 4
                have e_r_0 : w16'.cell? ⟨w.heap.size, 0, none⟩ = some (.int .i64 0) := B_r.cell 0
                have f_r_0 := B_r.frozen 0
                have e_r_1 : w16'.cell? ⟨w.heap.size, 1, none⟩ = some (.int .i64 0) := B_r.cell 1
                have f_r_1 := B_r.frozen 1
                have e_r_2 : w16'.cell? ⟨w.heap.size, 2, none⟩ = some (.int .i64 0) := B_r.cell 2
                have f_r_2 := B_r.frozen 2
                have e_r_3 : w16'.cell? ⟨w.heap.size, 3, none⟩ = some (.slice none 0 0) := B_r.cell 3
                have f_r_3 := B_r.frozen 3
                have e_r_4 : w16'.cell? ⟨w.heap.size, 4, none⟩ = some (.slice none 0 0) := B_r.cell 4
                have f_r_4 := B_r.frozen 4
                go_wp2
                clear e_x_0 e_x_1 e_x_2 e_x_3 e_x_4 e_r_0 f_r_0 e_r_1 f_r_1 e_r_2 f_r_2 e_r_3 f_r_3 e_r_4 f_r_4
                have g_1 : Only [w.heap.size] w16' (w16'.setCell ⟨w.heap.size, 0, none⟩ (.int .i64 5)) := (Only.refl _ _).setCell _ _ (by simp)
                replace B_r := B_r.set_ 0 (.int .i64 5)
                generalize w16'.setCell ⟨w.heap.size, 0, none⟩ (.int .i64 5) = w17_1' at *
                have G := g_1
                clear g_1
                have g_2 : Only [w.heap.size] w17_1' (w17_1'.setCell ⟨w.heap.size, 1, none⟩ (.int .i64 1)) := (Only.refl _ _).setCell _ _ (by simp)
                replace B_r := B_r.set_ 1 (.int .i64 1)
                generalize w17_1'.setCell ⟨w.heap.size, 1, none⟩ (.int .i64 1) = w17_2' at *
                replace G := G.trans g_2
                clear g_2
                have g_3 : Only [w.heap.size] w17_2' (w17_2'.setCell ⟨w.heap.size, 2, none⟩ (.int .i64 0)) := (Only.refl _ _).setCell _ _ (by simp)
                replace B_r := B_r.set_ 2 (.int .i64 0)
                generalize w17_2'.setCell ⟨w.heap.size, 2, none⟩ (.int .i64 0) = w17_3' at *
                replace G := G.trans g_3
                clear g_3
                have g_4 : Only [w.heap.size] w17_3' (w17_3'.setCell ⟨w.heap.size, 3, none⟩ (.slice ga2 i gc2)) := (Only.refl _ _).setCell _ _ (by simp)
                replace B_r := B_r.set_ 3 (.slice ga2 i gc2)
                generalize w17_3'.setCell ⟨w.heap.size, 3, none⟩ (.slice ga2 i gc2) = w17_4' at *
                replace G := G.trans g_4
                clear g_4
                have g_5 : Only [w.heap.size] w17_4' (w17_4'.setCell ⟨w.heap.size, 4, none⟩ (.slice (some ⟨bl, 0, none⟩) 1 1)) := (Only.refl _ _).setCell _ _ (by simp)
                replace B_r := B_r.set_ 4 (.slice (some ⟨bl, 0, none⟩) 1 1)
                generalize w17_4'.setCell ⟨w.heap.size, 4, none⟩ (.slice (some ⟨bl, 0, none⟩) 1 1) = w17' at *
                replace G := G.trans g_5
                clear g_5
                simp only [List.setIfInBounds_toArray, List.set_cons_zero, List.set_cons_succ] at B_r
                have V_w17' : Only [g] w w17' := (V_w16').thn G (fun q hq => Or.inl (by have := (V_w16').size; simp at hq; omega))
                have C_w17'_0 : Cur w17' g _ := C_w16'.only G (fun q hq => by simp at hq; omega)
                replace B_x := B_x.only G (by first | (simp; done) | (simp; omega))
                replace oo := oo.only G (fun q hq hq' => by have := Q_oo.out q hq; simp at hq'; omega)
                replace og := og.only G (fun q hq hq' => by have := Q_og.out q hq; simp at hq'; omega)
                have sG0 := G.size
                clear G
                clear V_w16'
                have S_w17' : w16'.heap.size + 0 ≤ w17'.heap.size := by omega
                clear sG0
                have e_r_0 : w17'.cell? ⟨w.heap.size, 0, none⟩ = some (.int .i64 5) := B_r.cell 0
                have e_r_1 : w17'.cell? ⟨w.heap.size, 1, none⟩ = some (.int .i64 1) := B_r.cell 1
                have e_r_2 : w17'.cell? ⟨w.heap.size, 2, none⟩ = some (.int .i64 0) := B_r.cell 2
                have e_r_3 : w17'.cell? ⟨w.heap.size, 3, none⟩ = some (.slice ga2 i gc2) := B_r.cell 3
                have e_r_4 : w17'.cell? ⟨w.heap.size, 4, none⟩ = some (.slice (some ⟨bl, 0, none⟩) 1 1) := B_r.cell 4
                exact bodyPost_ret (v := .agg #[.int .i64 5, .int .i64 1, .int .i64 0, .slice ga2 i gc2, .slice (some ⟨bl, 0, none⟩) 1 1]) (by simp [results, Try.results60, go_sem, e_r_0, e_r_1, e_r_2, e_r_3, e_r_4]) rfl ⟨_, _, _, _, _, _, _, _, _, _, _, _, rfl, ⟨by omega, by omega⟩, ⟨by omega, by omega⟩, ⟨by omega, by omega⟩, by omega, by omega, og.lower (by omega), oo.lower (by omega), by omega, C_w17'_0, V_w17'⟩

          · have b4 : ((s == 4) : Bool) = false := by simpa using h4
            by_cases h5 : s = 5

            · subst h5
              clear og
              clear oo
              clear Q_og Q_oo AP
              have B9 := Blk.alloc B_x (.cells #[.int .i64 0, .int .i64 0] 3)
              have e90 := B9.cell 0
              have f90 := B9.frozen 0
              have e91 := B9.cell 1
              have f91 := B9.frozen 1
              have e92 := B9.cell 2
              have f92 := B9.frozen 2
              have e93 := B9.cell 3
              have f93 := B9.frozen 3
              have e94 := B9.cell 4
              have f94 := B9.frozen 4
              go_upto_region 21 with fail
              clear e90 f90 e91 f91 e92 f92 e93 f93 e94 f94 B9
              generalize hbl : w4'.heap.size = bl at *
              have hbl0 : bx < bl := by omega
              have oo : Own (w4'.alloc (.cells #[.int .i64 0, .int .i64 0] 3)) w4'.heap.size (some ⟨w4'.heap.size, 0, none⟩) 2 2 [0, 0] := Own.lit w4' w4'.heap.size [0, 0] (Nat.le_refl _) (by simp [maxLen])
              replace B_r := Blk.alloc B_r (.cells #[.int .i64 0, .int .i64 0] 3)
              replace B_x := Blk.alloc B_x (.cells #[.int .i64 0, .int .i64 0] 3)
              have C_w18' : Cur (w4'.alloc (.cells #[.int .i64 0, .int .i64 0] 3)) g _ := C_w4'.alloc _
              have V_w18' : Only [g] w (w4'.alloc (.cells #[.int .i64 0, .int .i64 0] 3)) := V_w4'.alloc _
              have S_w18' : w4'.heap.size < (w4'.alloc (.cells #[.int .i64 0, .int .i64 0] 3)).heap.size := by simp
              generalize (w4'.alloc (.cells #[.int .i64 0, .int .i64 0] 3)) = w18' at *
              clear V_w4'
              rw [hbl] at oo
              have Q_oo := Lib.hid oo.feet
              have g_1 : Only [bx] w18' (w18'.setCell ⟨bx, 0, none⟩ (.int .i64 7)) := (Only.refl _ _).setCell _ _ (by simp)
              replace B_x := B_x.set_ 0 (.int .i64 7)
              generalize w18'.setCell ⟨bx, 0, none⟩ (.int .i64 7) = w19_1' at *
              have G := g_1
              clear g_1
              have g_2 : Only [bx] w19_1' (w19_1'.setCell ⟨bx, 1, none⟩ (.int .i64 1)) := (Only.refl _ _).setCell _ _ (by simp)
              replace B_x := B_x.set_ 1 (.int .i64 1)
              generalize w19_1'.setCell ⟨bx, 1, none⟩ (.int .i64 1) = w19_2' at *
              replace G := G.trans g_2
              clear g_2
              have g_3 : Only [bx] w19_2' (w19_2'.setCell ⟨bx, 2, none⟩ (.int .i64 0)) := (Only.refl _ _).setCell _ _ (by simp)
              replace B_x := B_x.set_ 2 (.int .i64 0)
              generalize w19_2'.setCell ⟨bx, 2, none⟩ (.int .i64 0) = w19_3' at *
              replace G := G.trans g_3
              clear g_3
              have g_4 : Only [bx] w19_3' (w19_3'.setCell ⟨bx, 3, none⟩ (.slice none 0 0)) := (Only.refl _ _).setCell _ _ (by simp)
              replace B_x := B_x.set_ 3 (.slice none 0 0)
              generalize w19_3'.setCell ⟨bx, 3, none⟩ (.slice none 0 0) = w19_4' at *
              replace G := G.trans g_4
              clear g_4
              have g_5 : Only [bx] w19_4' (w19_4'.setCell ⟨bx, 4, none⟩ (.slice (some ⟨bl, 0, none⟩) 2 2)) := (Only.refl _ _).setCell _ _ (by simp)
              replace B_x := B_x.set_ 4 (.slice (some ⟨bl, 0, none⟩) 2 2)
              generalize w19_4'.setCell ⟨bx, 4, none⟩ (.slice (some ⟨bl, 0, none⟩) 2 2) = w19' at *
              replace G := G.trans g_5
              clear g_5
              simp only [List.setIfInBounds_toArray, List.set_cons_zero, List.set_cons_succ] at B_x
              have V_w19' : Only [g] w w19' := (V_w18').thn G (fun q hq => Or.inl (by have := (V_w18').size; simp at hq; omega))
              have C_w19'_0 : Cur w19' g _ := C_w18'.only G (fun q hq => by simp at hq; omega)
              replace B_r := B_r.only G (by first | (simp; done) | (simp; omega))
              replace oo := oo.only G (fun q hq hq' => by have := Q_oo.out q hq; simp at hq'; omega)
              have sG0 := G.size
              clear G
              clear V_w18'
              have S_w19' : w18'.heap.size + 0 ≤ w19'.heap.size := by omega
              clear sG0
              have HOO : Hid (∀ q ∈ foot (some (⟨bl, 0, none⟩ : Addr)) 2, q = bl) := Lib.hid (by simp [foot, rowOf])
              have og : OwnF 3 eGate w19' (bl + 1) none 0 0 [] := OwnC.nil0 _ _ _ _ _

              go_wp2_with fail
              refine (pick_any g _ 4 _ C_w19'_0 (by omega)).mono ?_
              rintro e w20' ⟨nn, k_w20', rfl, n0, n1, n2, q_w20', C_w20', o_w20'⟩
              have V_w20' := V_w19'.trans o_w20'
              replace oo := oo.cur o_w20' (by omega)
              replace og := og.cur o_w20' (by omega)
              replace B_r := B_r.only o_w20' (by simp; omega)
              replace B_x := B_x.only o_w20' (by simp; omega)
              have S_w20' := o_w20'.size
              clear o_w20' V_w19'
              obtain ⟨N, hN⟩ : ∃ N : Nat, 98 + nn = N := ⟨(98 + nn).toNat, by omega⟩
              have hN1 : N ≤ 101 := by omega
              have hbl1 : bl < w20'.heap.size := by omega
              clear n1 n2 hbl
              go_wp2
              clear hN
              go_loopw [84] (fun _ wr => ∃ i : Nat, i ≤ N ∧ Only [g] w wr ∧ bl < wr.heap.size ∧ ∃ (ga2 : Option Addr) (gc2 : Nat) (G2 : List Int) (kk : Nat), Blk wr w.heap.size 41 #[.int .i64 0, .int .i64 0, .int .i64 0, .slice none 0 0, .slice none 0 0] ∧ Blk wr bx 41 #[.int .i64 7, .int .i64 1, .int .i64 0, .slice ga2 i gc2, .slice (some ⟨bl, 0, none⟩) 2 2] ∧ OwnF 3 eGate wr (bl + 1) ga2 i gc2 G2 ∧ Own wr bl (some ⟨bl, 0, none⟩) 2 2 [0, 0] ∧ kk ≤ k + 200 ∧ Cur wr g kk) (fun _ wr => N - glen wr bx)
              case atStart => exact ⟨0, by omega, V_w20', by omega, none, 0, [], _, B_r, B_x, og, oo, by omega, C_w20'⟩
              case round =>
                clear B_r B_x og oo
                obtain ⟨i, hi, hO, hbw, ga2, gc2, G2, k', B_r, B_x, og, oo, hk', hc⟩ := hrel
                have hgl : Hid (glen wr bx = i) := Lib.hid (glen_of (B_x.cell 3))




                by_cases hlt : (i : Int) < (N : Int)

                · skip
                  have e_x_0 : wr.cell? ⟨bx, 0, none⟩ = some (.int .i64 7) := B_x.cell 0
                  have f_x_0 := B_x.frozen 0
                  have e_x_1 : wr.cell? ⟨bx, 1, none⟩ = some (.int .i64 1) := B_x.cell 1
                  have f_x_1 := B_x.frozen 1
                  have e_x_2 : wr.cell? ⟨bx, 2, none⟩ = some (.int .i64 0) := B_x.cell 2
                  have f_x_2 := B_x.frozen 2
                  have e_x_3 : wr.cell? ⟨bx, 3, none⟩ = some (.slice ga2 i gc2) := B_x.cell 3
                  have f_x_3 := B_x.frozen 3
                  have e_x_4 : wr.cell? ⟨bx, 4, none⟩ = some (.slice (some ⟨bl, 0, none⟩) 2 2) := B_x.cell 4
                  have f_x_4 := B_x.frozen 4
                  go_wp2_with (at_builtin; refine wpList_appG _ rfl _ _ rfl (bl + 1) ga2 i gc2 G2 rfl (og.alloc _) (some ⟨wr.heap.size, 0, none⟩) 1 0 0 0 rfl (RowC.gate wr 0 0 0 _) (by omega) (by simp; omega) ?_)
                  clear e_x_0 f_x_0 e_x_1 f_x_1 e_x_2 f_x_2 e_x_3 f_x_3 e_x_4 f_x_4
                  intro a5 c5 wA o5 g5 m5
                  clear m5
                  have L := (Below.refl wr.heap.size wr).alloc (Nat.le_refl _) (.cells #[.int .i64 0, .int .i64 0, .int .i64 0] 78)
                  have G3 : Only (foot ga2 gc2) (wr.alloc (.cells #[.int .i64 0, .int .i64 0, .int .i64 0] 78)) wA := Only.of_grown g5
                  have hf : ∀ q ∈ foot ga2 gc2, bl < q := fun q hq => by have := (og.feet q hq).1; omega
                  have BX := (B_x.below L).only G3 (by intro hm; have := hf _ hm; omega)
                  have BR := (B_r.below L).only G3 (by intro hm; have := hf _ hm; omega)
                  have OO := (oo.below L).only G3 (fun q hq hq' => by have := HOO.out q hq; have := hf q hq'; omega)
                  have C3 := (hc.below L).only G3 (fun q hq => by have := hf q hq; omega)
                  have O3 : Only [g] w wA := (hO.trans (Only.of_below L)).thn G3 (fun q hq => Or.inl (by have := hf q hq; omega))
                  have HS3 : bl < wA.heap.size := by have := L.size; have := G3.size; omega
                  have Z : Only [bx] wA (wA.setCell ⟨bx, 3, none⟩ (.slice a5 (i + 1) c5)) := (Only.refl _ _).setCell ⟨bx, 3, none⟩ _ (by simp)
                  have BX' : Blk (wA.setCell ⟨bx, 3, none⟩ (.slice a5 (i + 1) c5)) bx 41 #[.int .i64 7, .int .i64 1, .int .i64 0, .slice a5 (i + 1) c5, .slice (some ⟨bl, 0, none⟩) 2 2] := BX.set_ 3 (.slice a5 (i + 1) c5)
                  have BR' := BR.only Z (by simp; omega)
                  have OO' := OO.only Z (fun q hq hq' => by have := HOO.out q hq; simp at hq'; omega)
                  have o5' := o5.only Z (fun q hq hq' => by have := (o5.feet q hq).1; simp at hq'; omega)
                  have C3' := C3.only Z (fun q hq => by simp at hq; omega)
                  have O3' := O3.thn Z (fun q hq => Or.inl (by simp at hq; omega))
                  have HS3' : bl < (wA.setCell ⟨bx, 3, none⟩ (.slice a5 (i + 1) c5)).heap.size := by have := Z.size; omega
                  have HALL := Lib.hid (And.intro BX' (And.intro BR' (And.intro OO' (And.intro o5' (And.intro C3' (And.intro O3' HS3'))))))
                  have y3 := BX.cell 3
                  have z3 := BX.frozen 3
                  clear BX' BR' OO' o5' C3' O3' HS3' Z BR C3 O3 G3 L hf og oo OO g5 o5
                  go_wp2
                  go_roundw
                  case rel => exact ⟨i + 1, by omega, HALL.out.2.2.2.2.2.1, HALL.out.2.2.2.2.2.2, a5, c5, _, _, HALL.out.2.1, HALL.out.1, HALL.out.2.2.2.1, HALL.out.2.2.1, by omega, HALL.out.2.2.2.2.1⟩
                  case measure => rw [hgl.out, glen_of (HALL.out.1.cell 3)]; omega

                · skip
                  have Q_og := Lib.hid og.feet
                  have Q_oo := Lib.hid oo.feet
                  have e_x_0 : wr.cell? ⟨bx, 0, none⟩ = some (.int .i64 7) := B_x.cell 0
                  have e_x_1 : wr.cell? ⟨bx, 1, none⟩ = some (.int .i64 1) := B_x.cell 1
                  have e_x_2 : wr.cell? ⟨bx, 2, none⟩ = some (.int .i64 0) := B_x.cell 2
                  have e_x_3 : wr.cell? ⟨bx, 3, none⟩ = some (.slice ga2 i gc2) := B_x.cell 3
                  have e_x_4 : wr.cell? ⟨bx, 4, none⟩ = some (.slice (some ⟨bl, 0, none⟩) 2 2) := B_x.cell 4
                  have e_r_0 : wr.cell? ⟨w.heap.size, 0, none⟩ = some (.int .i64 0) := B_r.cell 0
                  have f_r_0 := B_r.frozen 0
                  have e_r_1 : wr.cell? ⟨w.heap.size, 1, none⟩ = some (.int .i64 0) := B_r.cell 1
                  have f_r_1 := B_r.frozen 1
                  have e_r_2 : wr.cell? ⟨w.heap.size, 2, none⟩ = some (.int .i64 0) := B_r.cell 2
                  have f_r_2 := B_r.frozen 2
                  have e_r_3 : wr.cell? ⟨w.heap.size, 3, none⟩ = some (.slice none 0 0) := B_r.cell 3
                  have f_r_3 := B_r.frozen 3
                  have e_r_4 : wr.cell? ⟨w.heap.size, 4, none⟩ = some (.slice none 0 0) := B_r.cell 4
                  have f_r_4 := B_r.frozen 4
                  go_wp2
                  clear e_x_0 e_x_1 e_x_2 e_x_3 e_x_4 e_r_0 f_r_0 e_r_1 f_r_1 e_r_2 f_r_2 e_r_3 f_r_3 e_r_4 f_r_4
                  have g_1 : Only [w.heap.size] wr (wr.setCell ⟨w.heap.size, 0, none⟩ (.int .i64 7)) := (Only.refl _ _).setCell _ _ (by simp)
                  replace B_r := B_r.set_ 0 (.int .i64 7)
                  generalize wr.setCell ⟨w.heap.size, 0, none⟩ (.int .i64 7) = w21_1' at *
                  have G := g_1
                  clear g_1
                  have g_2 : Only [w.heap.size] w21_1' (w21_1'.setCell ⟨w.heap.size, 1, none⟩ (.int .i64 1)) := (Only.refl _ _).setCell _ _ (by simp)
                  replace B_r := B_r.set_ 1 (.int .i64 1)
                  generalize w21_1'.setCell ⟨w.heap.size, 1, none⟩ (.int .i64 1) = w21_2' at *
                  replace G := G.trans g_2
                  clear g_2
                  have g_3 : Only [w.heap.size] w21_2' (w21_2'.setCell ⟨w.heap.size, 2, none⟩ (.int .i64 0)) := (Only.refl _ _).setCell _ _ (by simp)
                  replace B_r := B_r.set_ 2 (.int .i64 0)
                  generalize w21_2'.setCell ⟨w.heap.size, 2, none⟩ (.int .i64 0) = w21_3' at *
                  replace G := G.trans g_3
                  clear g_3
                  have g_4 : Only [w.heap.size] w21_3' (w21_3'.setCell ⟨w.heap.size, 3, none⟩ (.slice ga2 i gc2)) := (Only.refl _ _).setCell _ _ (by simp)
                  replace B_r := B_r.set_ 3 (.slice ga2 i gc2)
                  generalize w21_3'.setCell ⟨w.heap.size, 3, none⟩ (.slice ga2 i gc2) = w21_4' at *
                  replace G := G.trans g_4
                  clear g_4
                  have g_5 : Only [w.heap.size] w21_4' (w21_4'.setCell ⟨w.heap.size, 4, none⟩ (.slice (some ⟨bl, 0, none⟩) 2 2)) := (Only.refl _ _).setCell _ _ (by simp)
                  replace B_r := B_r.set_ 4 (.slice (some ⟨bl, 0, none⟩) 2 2)
                  generalize w21_4'.setCell ⟨w.heap.size, 4, none⟩ (.slice (some ⟨bl, 0, none⟩) 2 2) = w21' at *
                  replace G := G.trans g_5
                  clear g_5
                  simp only [List.setIfInBounds_toArray, List.set_cons_zero, List.set_cons_succ] at B_r
                  have V_w21' : Only [g] w w21' := (hO).thn G (fun q hq => Or.inl (by have := (hO).size; simp at hq; omega))
                  have C_w21'_0 : Cur w21' g _ := hc.only G (fun q hq => by simp at hq; omega)
                  replace B_x := B_x.only G (by first | (simp; done) | (simp; omega))
                  replace oo := oo.only G (fun q hq hq' => by have := Q_oo.out q hq; simp at hq'; omega)
                  replace og := og.only G (fun q hq hq' => by have := Q_og.out q hq; simp at hq'; omega)
                  have sG0 := G.size
                  clear G
                  clear hO
                  have S_w21' : wr.heap.size + 0 ≤ w21'.heap.size := by omega
                  clear sG0
                  have e_r_0 : w21'.cell? ⟨w.heap.size, 0, none⟩ = some (.int .i64 7) := B_r.cell 0
                  have e_r_1 : w21'.cell? ⟨w.heap.size, 1, none⟩ = some (.int .i64 1) := B_r.cell 1
                  have e_r_2 : w21'.cell? ⟨w.heap.size, 2, none⟩ = some (.int .i64 0) := B_r.cell 2
                  have e_r_3 : w21'.cell? ⟨w.heap.size, 3, none⟩ = some (.slice ga2 i gc2) := B_r.cell 3
                  have e_r_4 : w21'.cell? ⟨w.heap.size, 4, none⟩ = some (.slice (some ⟨bl, 0, none⟩) 2 2) := B_r.cell 4
                  exact bodyPost_ret (v := .agg #[.int .i64 7, .int .i64 1, .int .i64 0, .slice ga2 i gc2, .slice (some ⟨bl, 0, none⟩) 2 2]) (by simp [results, Try.results60, go_sem, e_r_0, e_r_1, e_r_2, e_r_3, e_r_4]) rfl ⟨_, _, _, _, _, _, _, _, _, _, _, _, rfl, ⟨by omega, by omega⟩, ⟨by omega, by omega⟩, ⟨by omega, by omega⟩, by omega, by omega, og.lower (by omega), oo.lower (by omega), by omega, C_w21'_0, V_w21'⟩

            · have b5 : ((s == 5) : Bool) = false := by simpa using h5
              by_cases h6 : s = 6

              · subst h6
                clear og
                clear oo
                clear Q_og Q_oo AP
                go_wp2_with fail
                refine (pick_any g _ 4 _ C_w4' (by omega)).mono ?_
                rintro e w22' ⟨nn, k_w22', rfl, n0, n1, n2, q_w22', C_w22', o_w22'⟩
                have V_w22' := V_w4'.trans o_w22'
                replace B_r := B_r.only o_w22' (by simp; omega)
                replace B_x := B_x.only o_w22' (by simp; omega)
                have S_w22' := o_w22'.size
                clear o_w22' V_w4'
                obtain ⟨N, rfl⟩ : ∃ N : Nat, nn = N := ⟨nn.toNat, by omega⟩
                have hN1 : N ≤ 3 := by omega
                clear n1 n2
                obtain ⟨ii, hii, hz0, hz1, hz2⟩ := info_parts info_int
                obtain ⟨bl, hbl⟩ : ∃ b, w22'.heap.size = b := ⟨_, rfl⟩
                go_wp2_with (at_make; refine wpList_make_full _ rfl _ _ 24 rfl w22'.heap.size 3 ii (.int .i64 0) 1 Try.underlying24 hii hz0 hz1 _ _ _ _ (18 + N) rfl rfl (by omega) (by omega) (by rw [hz2]; omega) (by unfold maxLen; omega) (Nat.le_refl _) ?_)
                intro wM hown hgrow
                have oo : Own wM bl (some ⟨bl, 0, none⟩) (18 + N) (18 + N) (List.replicate (18 + N) 0) := by
                  obtain ⟨a1, c1, e1, h1⟩ := Own.of_owns (l := List.replicate (18 + N) 0) (by simpa [toList_madeCells_one, Value.cells] using hown)
                  cases e1
                  exact h1
                have uM : Below w22'.heap.size w22' wM := (Below.refl _ _).grown hgrow (Nat.le_refl _) (fun k hk => by cases hk)
                have hbl0 : bx < bl := by omega
                clear hown hgrow hii hz0 hz1 hz2
                replace B_r := B_r.below uM
                replace B_x := B_x.below uM
                have C_wM := C_w22'.below uM
                have S_wM := uM.size
                have V_wM := V_w22'.trans (Only.of_below uM)
                clear V_w22'
                clear uM

                have Q_oo := Lib.hid oo.feet
                clear hbl
                have e_x_0 : wM.cell? ⟨bx, 0, none⟩ = some (.int .i64 P) := B_x.cell 0
                have f_x_0 := B_x.frozen 0
                have e_x_1 : wM.cell? ⟨bx, 1, none⟩ = some (.int .i64 i0) := B_x.cell 1
                have f_x_1 := B_x.frozen 1
                have e_x_2 : wM.cell? ⟨bx, 2, none⟩ = some (.int .i64 i1) := B_x.cell 2
                have f_x_2 := B_x.frozen 2
                have e_x_3 : wM.cell? ⟨bx, 3, none⟩ = some (.slice ga gn gc) := B_x.cell 3
                have f_x_3 := B_x.frozen 3
                have e_x_4 : wM.cell? ⟨bx, 4, none⟩ = some (.slice oa on oc) := B_x.cell 4
                have f_x_4 := B_x.frozen 4
                go_upto_region 26 with fail
                clear e_x_0 f_x_0 e_x_1 f_x_1 e_x_2 f_x_2 e_x_3 f_x_3 e_x_4 f_x_4
                have g_1 : Only [bx] wM (wM.setCell ⟨bx, 0, none⟩ (.int .i64 7)) := (Only.refl _ _).setCell _ _ (by simp)
                replace B_x := B_x.set_ 0 (.int .i64 7)
                generalize wM.setCell ⟨bx, 0, none⟩ (.int .i64 7) = w23_1' at *
                have G := g_1
                clear g_1
                have g_2 : Only [bx] w23_1' (w23_1'.setCell ⟨bx, 1, none⟩ (.int .i64 1)) := (Only.refl _ _).setCell _ _ (by simp)
                replace B_x := B_x.set_ 1 (.int .i64 1)
                generalize w23_1'.setCell ⟨bx, 1, none⟩ (.int .i64 1) = w23_2' at *
                replace G := G.trans g_2
                clear g_2
                have g_3 : Only [bx] w23_2' (w23_2'.setCell ⟨bx, 2, none⟩ (.int .i64 0)) := (Only.refl _ _).setCell _ _ (by simp)
                replace B_x := B_x.set_ 2 (.int .i64 0)
                generalize w23_2'.setCell ⟨bx, 2, none⟩ (.int .i64 0) = w23_3' at *
                replace G := G.trans g_3
                clear g_3
                have g_4 : Only [bx] w23_3' (w23_3'.setCell ⟨bx, 3, none⟩ (.slice none 0 0)) := (Only.refl _ _).setCell _ _ (by simp)
                replace B_x := B_x.set_ 3 (.slice none 0 0)
                generalize w23_3'.setCell ⟨bx, 3, none⟩ (.slice none 0 0) = w23_4' at *
                replace G := G.trans g_4
                clear g_4
                have g_5 : Only [bx] w23_4' (w23_4'.setCell ⟨bx, 4, none⟩ (.slice (some ⟨bl, 0, none⟩) (18 + N) (18 + N))) := (Only.refl _ _).setCell _ _ (by simp)
                replace B_x := B_x.set_ 4 (.slice (some ⟨bl, 0, none⟩) (18 + N) (18 + N))
                generalize w23_4'.setCell ⟨bx, 4, none⟩ (.slice (some ⟨bl, 0, none⟩) (18 + N) (18 + N)) = w23' at *
                replace G := G.trans g_5
                clear g_5
                simp only [List.setIfInBounds_toArray, List.set_cons_zero, List.set_cons_succ] at B_x
                have V_w23' : Only [g] w w23' := (V_wM).thn G (fun q hq => Or.inl (by have := (V_wM).size; simp at hq; omega))
                have C_w23'_0 : Cur w23' g _ := C_wM.only G (fun q hq => by simp at hq; omega)
                replace B_r := B_r.only G (by first | (simp; done) | (simp; omega))
                replace oo := oo.only G (fun q hq hq' => by have := Q_oo.out q hq; simp at hq'; omega)
                have sG0 := G.size
                clear G
                clear V_wM
                have S_w23' : wM.heap.size + 0 ≤ w23'.heap.size := by omega
                clear sG0
                have og : OwnF 3 eGate w23' (bl + 1) none 0 0 [] := OwnC.nil0 _ _ _ _ _

                have Q_og := Lib.hid og.feet
                have e_x_0 : w23'.cell? ⟨bx, 0, none⟩ = some (.int .i64 7) := B_x.cell 0
                have e_x_1 : w23'.cell? ⟨bx, 1, none⟩ = some (.int .i64 1) := B_x.cell 1
                have e_x_2 : w23'.cell? ⟨bx, 2, none⟩ = some (.int .i64 0) := B_x.cell 2
                have e_x_3 : w23'.cell? ⟨bx, 3, none⟩ = some (.slice none 0 0) := B_x.cell 3
                have e_x_4 : w23'.cell? ⟨bx, 4, none⟩ = some (.slice (some ⟨bl, 0, none⟩) (18 + N) (18 + N)) := B_x.cell 4
                have e_r_0 : w23'.cell? ⟨w.heap.size, 0, none⟩ = some (.int .i64 0) := B_r.cell 0
                have f_r_0 := B_r.frozen 0
                have e_r_1 : w23'.cell? ⟨w.heap.size, 1, none⟩ = some (.int .i64 0) := B_r.cell 1
                have f_r_1 := B_r.frozen 1
                have e_r_2 : w23'.cell? ⟨w.heap.size, 2, none⟩ = some (.int .i64 0) := B_r.cell 2
                have f_r_2 := B_r.frozen 2
                have e_r_3 : w23'.cell? ⟨w.heap.size, 3, none⟩ = some (.slice none 0 0) := B_r.cell 3
                have f_r_3 := B_r.frozen 3
                have e_r_4 : w23'.cell? ⟨w.heap.size, 4, none⟩ = some (.slice none 0 0) := B_r.cell 4
                have f_r_4 := B_r.frozen 4
                go_wp2
                clear e_x_0 e_x_1 e_x_2 e_x_3 e_x_4 e_r_0 f_r_0 e_r_1 f_r_1 e_r_2 f_r_2 e_r_3 f_r_3 e_r_4 f_r_4
                have g_1 : Only [w.heap.size] w23' (w23'.setCell ⟨w.heap.size, 0, none⟩ (.int .i64 7)) := (Only.refl _ _).setCell _ _ (by simp)
                replace B_r := B_r.set_ 0 (.int .i64 7)
                generalize w23'.setCell ⟨w.heap.size, 0, none⟩ (.int .i64 7) = w24_1' at *
                have G := g_1
                clear g_1
                have g_2 : Only [w.heap.size] w24_1' (w24_1'.setCell ⟨w.heap.size, 1, none⟩ (.int .i64 1)) := (Only.refl _ _).setCell _ _ (by simp)
                replace B_r := B_r.set_ 1 (.int .i64 1)
                generalize w24_1'.setCell ⟨w.heap.size, 1, none⟩ (.int .i64 1) = w24_2' at *
                replace G := G.trans g_2
                clear g_2
                have g_3 : Only [w.heap.size] w24_2' (w24_2'.setCell ⟨w.heap.size, 2, none⟩ (.int .i64 0)) := (Only.refl _ _).setCell _ _ (by simp)
                replace B_r := B_r.set_ 2 (.int .i64 0)
                generalize w24_2'.setCell ⟨w.heap.size, 2, none⟩ (.int .i64 0) = w24_3' at *
                replace G := G.trans g_3
                clear g_3
                have g_4 : Only [w.heap.size] w24_3' (w24_3'.setCell ⟨w.heap.size, 3, none⟩ (.slice none 0 0)) := (Only.refl _ _).setCell _ _ (by simp)
                replace B_r := B_r.set_ 3 (.slice none 0 0)
                generalize w24_3'.setCell ⟨w.heap.size, 3, none⟩ (.slice none 0 0) = w24_4' at *
                replace G := G.trans g_4
                clear g_4
                have g_5 : Only [w.heap.size] w24_4' (w24_4'.setCell ⟨w.heap.size, 4, none⟩ (.slice (some ⟨bl, 0, none⟩) (18 + N) (18 + N))) := (Only.refl _ _).setCell _ _ (by simp)
                replace B_r := B_r.set_ 4 (.slice (some ⟨bl, 0, none⟩) (18 + N) (18 + N))
                generalize w24_4'.setCell ⟨w.heap.size, 4, none⟩ (.slice (some ⟨bl, 0, none⟩) (18 + N) (18 + N)) = w24' at *
                replace G := G.trans g_5
                clear g_5
                simp only [List.setIfInBounds_toArray, List.set_cons_zero, List.set_cons_succ] at B_r
                have V_w24' : Only [g] w w24' := (V_w23').thn G (fun q hq => Or.inl (by have := (V_w23').size; simp at hq; omega))
                have C_w24'_0 : Cur w24' g _ := C_w23'_0.only G (fun q hq => by simp at hq; omega)
                replace B_x := B_x.only G (by first | (simp; done) | (simp; omega))
                replace oo := oo.only G (fun q hq hq' => by have := Q_oo.out q hq; simp at hq'; omega)
                replace og := og.only G (fun q hq hq' => by have := Q_og.out q hq; simp at hq'; omega)
                have sG0 := G.size
                clear G
                clear V_w23'
                have S_w24' : w23'.heap.size + 0 ≤ w24'.heap.size := by omega
                clear sG0
                have e_r_0 : w24'.cell? ⟨w.heap.size, 0, none⟩ = some (.int .i64 7) := B_r.cell 0
                have e_r_1 : w24'.cell? ⟨w.heap.size, 1, none⟩ = some (.int .i64 1) := B_r.cell 1
                have e_r_2 : w24'.cell? ⟨w.heap.size, 2, none⟩ = some (.int .i64 0) := B_r.cell 2
                have e_r_3 : w24'.cell? ⟨w.heap.size, 3, none⟩ = some (.slice none 0 0) := B_r.cell 3
                have e_r_4 : w24'.cell? ⟨w.heap.size, 4, none⟩ = some (.slice (some ⟨bl, 0, none⟩) (18 + N) (18 + N)) := B_r.cell 4
                exact bodyPost_ret (v := .agg #[.int .i64 7, .int .i64 1, .int .i64 0, .slice none 0 0, .slice (some ⟨bl, 0, none⟩) (18 + N) (18 + N)]) (by simp [results, Try.results60, go_sem, e_r_0, e_r_1, e_r_2, e_r_3, e_r_4]) rfl ⟨_, _, _, _, _, _, _, _, _, _, _, _, rfl, ⟨by omega, by omega⟩, ⟨by omega, by omega⟩, ⟨by omega, by omega⟩, by omega, by omega, og.lower (by omega), oo.lower (by omega), by omega, C_w24'_0, V_w24'⟩

              · have b6 : ((s == 6) : Bool) = false := by simpa using h6
                have e_x_0 : w4'.cell? ⟨bx, 0, none⟩ = some (.int .i64 P) := B_x.cell 0
                have e_x_1 : w4'.cell? ⟨bx, 1, none⟩ = some (.int .i64 i0) := B_x.cell 1
                have e_x_2 : w4'.cell? ⟨bx, 2, none⟩ = some (.int .i64 i1) := B_x.cell 2
                have e_x_3 : w4'.cell? ⟨bx, 3, none⟩ = some (.slice ga gn gc) := B_x.cell 3
                have e_x_4 : w4'.cell? ⟨bx, 4, none⟩ = some (.slice oa on oc) := B_x.cell 4
                have e_r_0 : w4'.cell? ⟨w.heap.size, 0, none⟩ = some (.int .i64 0) := B_r.cell 0
                have f_r_0 := B_r.frozen 0
                have e_r_1 : w4'.cell? ⟨w.heap.size, 1, none⟩ = some (.int .i64 0) := B_r.cell 1
                have f_r_1 := B_r.frozen 1
                have e_r_2 : w4'.cell? ⟨w.heap.size, 2, none⟩ = some (.int .i64 0) := B_r.cell 2
                have f_r_2 := B_r.frozen 2
                have e_r_3 : w4'.cell? ⟨w.heap.size, 3, none⟩ = some (.slice none 0 0) := B_r.cell 3
                have f_r_3 := B_r.frozen 3
                have e_r_4 : w4'.cell? ⟨w.heap.size, 4, none⟩ = some (.slice none 0 0) := B_r.cell 4
                have f_r_4 := B_r.frozen 4
                go_wp2
                clear e_x_0 e_x_1 e_x_2 e_x_3 e_x_4 e_r_0 f_r_0 e_r_1 f_r_1 e_r_2 f_r_2 e_r_3 f_r_3 e_r_4 f_r_4
                have g_1 : Only [w.heap.size] w4' (w4'.setCell ⟨w.heap.size, 0, none⟩ (.int .i64 P)) := (Only.refl _ _).setCell _ _ (by simp)
                replace B_r := B_r.set_ 0 (.int .i64 P)
                generalize w4'.setCell ⟨w.heap.size, 0, none⟩ (.int .i64 P) = w25_1' at *
                have G := g_1
                clear g_1
                have g_2 : Only [w.heap.size] w25_1' (w25_1'.setCell ⟨w.heap.size, 1, none⟩ (.int .i64 i0)) := (Only.refl _ _).setCell _ _ (by simp)
                replace B_r := B_r.set_ 1 (.int .i64 i0)
                generalize w25_1'.setCell ⟨w.heap.size, 1, none⟩ (.int .i64 i0) = w25_2' at *
                replace G := G.trans g_2
                clear g_2
                have g_3 : Only [w.heap.size] w25_2' (w25_2'.setCell ⟨w.heap.size, 2, none⟩ (.int .i64 i1)) := (Only.refl _ _).setCell _ _ (by simp)
                replace B_r := B_r.set_ 2 (.int .i64 i1)
                generalize w25_2'.setCell ⟨w.heap.size, 2, none⟩ (.int .i64 i1) = w25_3' at *
                replace G := G.trans g_3
                clear g_3
                have g_4 : Only [w.heap.size] w25_3' (w25_3'.setCell ⟨w.heap.size, 3, none⟩ (.slice ga gn gc)) := (Only.refl _ _).setCell _ _ (by simp)
                replace B_r := B_r.set_ 3 (.slice ga gn gc)
                generalize w25_3'.setCell ⟨w.heap.size, 3, none⟩ (.slice ga gn gc) = w25_4' at *
                replace G := G.trans g_4
                clear g_4
                have g_5 : Only [w.heap.size] w25_4' (w25_4'.setCell ⟨w.heap.size, 4, none⟩ (.slice oa on oc)) := (Only.refl _ _).setCell _ _ (by simp)
                replace B_r := B_r.set_ 4 (.slice oa on oc)
                generalize w25_4'.setCell ⟨w.heap.size, 4, none⟩ (.slice oa on oc) = w25' at *
                replace G := G.trans g_5
                clear g_5
                simp only [List.setIfInBounds_toArray, List.set_cons_zero, List.set_cons_succ] at B_r
                have V_w25' : Only [g] w w25' := (V_w4').thn G (fun q hq => Or.inl (by have := (V_w4').size; simp at hq; omega))
                have C_w25'_0 : Cur w25' g _ := C_w4'.only G (fun q hq => by simp at hq; omega)
                replace B_x := B_x.only G (by first | (simp; done) | (simp; omega))
                replace og := og.only G (fun q hq hq' => by have := Q_og.out q hq; simp at hq'; omega)
                replace oo := oo.only G (fun q hq hq' => by have := Q_oo.out q hq; simp at hq'; omega)
                have sG0 := G.size
                clear G
                clear V_w4'
                have S_w25' : w4'.heap.size + 0 ≤ w25'.heap.size := by omega
                clear sG0
                have e_r_0 : w25'.cell? ⟨w.heap.size, 0, none⟩ = some (.int .i64 P) := B_r.cell 0
                have e_r_1 : w25'.cell? ⟨w.heap.size, 1, none⟩ = some (.int .i64 i0) := B_r.cell 1
                have e_r_2 : w25'.cell? ⟨w.heap.size, 2, none⟩ = some (.int .i64 i1) := B_r.cell 2
                have e_r_3 : w25'.cell? ⟨w.heap.size, 3, none⟩ = some (.slice ga gn gc) := B_r.cell 3
                have e_r_4 : w25'.cell? ⟨w.heap.size, 4, none⟩ = some (.slice oa on oc) := B_r.cell 4
                exact bodyPost_ret (v := .agg #[.int .i64 P, .int .i64 i0, .int .i64 i1, .slice ga gn gc, .slice oa on oc]) (by simp [results, Try.results60, go_sem, e_r_0, e_r_1, e_r_2, e_r_3, e_r_4]) rfl ⟨_, _, _, _, _, _, _, _, _, _, _, _, rfl, ⟨by omega, by omega⟩, ⟨by omega, by omega⟩, ⟨by omega, by omega⟩, by omega, by omega, og.lower (by omega), oo.lower (by omega), by omega, C_w25'_0, V_w25'⟩
end Go.Proofs.Ythpcmbdkboajcaa
