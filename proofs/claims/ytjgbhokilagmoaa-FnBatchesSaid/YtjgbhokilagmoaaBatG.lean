/- The draws of the law on batches. -/
import Derived.Test.YtjgbhokilagmoaaBatF
namespace Go.Proofs.Ytjgbhokilagmoaa
open Go.RowKit
def BhP (w : World) (e : Ending) (w' : World) : Prop := ∃ (p d : Int) (ka : Option Addr) (kn kc : Nat) (keys : List Int) (la : Option Addr) (n lc : Nat) (L : List Int) (wa : Option Addr) (wn wc : Nat) (ws : List Int), e = .returned (.tuple #[.int .i64 p, .int .i64 d, .slice ka kn kc, .slice la n lc, .slice wa wn wc]) ∧ Ints w' ka kn kc keys ∧ Flat 2 w' la n lc L ∧ Ints w' wa wn wc ws ∧ Below w.heap.size w w'
def BmP (w : World) (e : Ending) (w' : World) : Prop := ∃ (p : Int) (ca : Option Addr) (n cc : Nat) (c : List Int) (ta : Option Addr) (tn tc : Nat) (t : List Int), e = .returned (.tuple #[.int .i64 p, .slice ca n cc, .slice ta tn tc]) ∧ Ints w' ca n cc c ∧ Ints w' ta tn tc t ∧ Below w.heap.size w w'
def Tg2P (w : World) (e : Ending) (w' : World) : Prop := ∃ p v t v' t' : Int, e = .returned (.tuple #[.int .i64 p, .agg #[.int .i64 v, .int .i64 t], .agg #[.int .i64 v', .int .i64 t']]) ∧ Below w.heap.size w w'
def TgkP (w : World) (e : Ending) (w' : World) : Prop := ∃ p v t k : Int, e = .returned (.tuple #[.int .i64 p, .agg #[.int .i64 v, .int .i64 t], .int .i64 k]) ∧ Below w.heap.size w w'
set_option maxHeartbeats 4000000 in
theorem DrawBatchHolds_any (a : Option Addr) (n c : Nat) (w : World) (h : Cod w w.heap.size a n c) :
    Calls Try.prog 26 #[.slice a n c] w (BhP w) := by

  go_enter Try.func26, Try.ntmps26
  go_wp2_with fail
  have C_w1' : Cur (w.alloc (.cells #[.slice a n c, .int .i64 0, .int .u64 0] 71)) w.heap.size 0 := Cur.of_new h
  have V_w1' : Below w.heap.size w (w.alloc (.cells #[.slice a n c, .int .i64 0, .int .u64 0] 71)) := (Below.refl _ _).alloc (Nat.le_refl _) _
  have S_w1' : w.heap.size < (w.alloc (.cells #[.slice a n c, .int .i64 0, .int .u64 0] 71)).heap.size := by simp
  generalize (w.alloc (.cells #[.slice a n c, .int .i64 0, .int .u64 0] 71)) = w1' at *
  refine (tags_any w.heap.size _ _ C_w1' (by omega)).mono ?_
  rintro e w2' ⟨p, d, ka, kn, kc, keys, la, m, lc, L, k_w2', rfl, pb, nb, ok, ol, q_w2', C_w2', o_w2'⟩
  have V_w2' := V_w1'.trans (o_w2'.below1 (Nat.le_refl _) V_w1'.size)
  have S_w2' := o_w2'.size
  clear o_w2' V_w1'
  go_wp2_with fail
  refine (elements_any w.heap.size _ p (m : Int) _ C_w2' (by omega) pb (by omega)).mono ?_
  rintro e w3' ⟨wa, wn, wc, ws, k_w3', rfl, hm, ow, wr, q_w3', C_w3', o_w3'⟩
  have V_w3' := V_w2'.trans (o_w3'.below1 (Nat.le_refl _) V_w2'.size)
  replace ok := ok.cur o_w3' (by omega)
  replace ol := ol.cur o_w3' (by omega)
  have S_w3' := o_w3'.size
  clear o_w3' V_w2'
  go_wp2
  exact bodyPost_ret (v := .tuple #[.int .i64 p, .int .i64 d, .slice ka kn kc, .slice la m lc, .slice wa wn wc]) (by simp [results, Try.results26, go_sem]) rfl ⟨_, _, _, _, _, _, _, _, _, _, _, _, _, _, rfl, ok.ints, ol.flat, ow.ints, V_w3'⟩
set_option maxHeartbeats 4000000 in
theorem DrawAddTagged_any (a : Option Addr) (n c : Nat) (w : World) (h : Cod w w.heap.size a n c) :
    Calls Try.prog 35 #[.slice a n c] w (Tg2P w) := by
  have H := Lib.hid h
  clear h

  go_enter Try.func35, Try.ntmps35
  go_upto_region 1 with fail
  refine Exists.elim (Blk.new_ w (b := w.heap.size) rfl 52 #[.int .i64 0, .int .i64 0]) (fun w1_a0' q => ?_)
  rw [q.1]; have B_r := q.2.1; have s_w1_a0' := q.2.2.1; have u_w1_a0' := q.2.2.2; clear q
  refine Exists.elim (Blk.new_ w1_a0' (b := w.heap.size + 1) s_w1_a0' 52 #[.int .i64 0, .int .i64 0]) (fun w1' q => ?_)
  rw [q.1]; have B_q := q.2.1; have s_w1' := q.2.2.1; have u_w1' := q.2.2.2; clear q
  replace B_r := (B_r.below u_w1')
  have U := (u_w1_a0'.trans (u_w1'.mono u_w1_a0'.size))
  have S_w1' : w.heap.size + 2 ≤ w1'.heap.size := Nat.le_of_eq s_w1'.symm
  have V_w1' := (Below.refl w.heap.size w).trans (U.mono ((Below.refl w.heap.size w)).size)
  clear u_w1_a0' u_w1' s_w1_a0' s_w1' U
  have h2 := H.out.belowAll V_w1'
  have V0 := V_w1'
  obtain ⟨wL, rfl⟩ : ∃ q, q = w1' := ⟨_, rfl⟩
  go_wp2_with fail

  have C_w2' : Cur (wL.alloc (.cells #[.slice a n c, .int .i64 0, .int .u64 0] 71)) wL.heap.size 0 := Cur.of_new h2
  have V_w2' : Below wL.heap.size wL (wL.alloc (.cells #[.slice a n c, .int .i64 0, .int .u64 0] 71)) := (Below.refl _ _).alloc (Nat.le_refl _) _
  have S_w2' : wL.heap.size < (wL.alloc (.cells #[.slice a n c, .int .i64 0, .int .u64 0] 71)).heap.size := by simp
  generalize (wL.alloc (.cells #[.slice a n c, .int .i64 0, .int .u64 0] 71)) = w2' at *
  replace B_r := B_r.below V_w2'
  replace B_q := B_q.below V_w2'


  refine (anyPrime_any wL.heap.size _ _ C_w2' (by omega)).mono ?_
  rintro e w3' ⟨p, k_w3', rfl, p0, p1, q_w3', C_w3', o_w3'⟩
  have V_w3' := V_w2'.trans (o_w3'.below1 (Nat.le_refl _) V_w2'.size)
  replace B_r := B_r.only o_w3' (by simp; omega)
  replace B_q := B_q.only o_w3' (by simp; omega)
  have S_w3' := o_w3'.size
  clear o_w3' V_w2'
  go_wp2_with fail
  refine (tagged_any wL.heap.size _ p _ C_w3' (by omega) (by omega)).mono ?_
  rintro e w4' ⟨v1, t1, k_w4', rfl, _, _, q_w4', C_w4', o_w4'⟩
  have V_w4' := V_w3'.trans (o_w4'.below1 (Nat.le_refl _) V_w3'.size)
  replace B_r := B_r.only o_w4' (by simp; omega)
  replace B_q := B_q.only o_w4' (by simp; omega)
  have S_w4' := o_w4'.size
  clear o_w4' V_w3'
  go_wp2_with fail
  refine (tagged_any wL.heap.size _ p _ C_w4' (by omega) (by omega)).mono ?_
  rintro e w5' ⟨v2, t2, k_w5', rfl, _, _, q_w5', C_w5', o_w5'⟩
  have V_w5' := V_w4'.trans (o_w5'.below1 (Nat.le_refl _) V_w4'.size)
  replace B_r := B_r.only o_w5' (by simp; omega)
  replace B_q := B_q.only o_w5' (by simp; omega)
  have S_w5' := o_w5'.size
  clear o_w5' V_w4'
  have e_r := B_r.all2
  have f_r := B_r.frz2
  have e_q := B_q.all2
  have f_q := B_q.frz2
  go_wp2
  clear e_r f_r e_q f_q
  have V1 := V0.trans ((V_w5').mono V0.size)
  obtain ⟨wF, rfl⟩ : ∃ q, q = w5' := ⟨_, rfl⟩




  refine Exists.elim (B_r.row2 (.int .i64 v1) (.int .i64 t1)) (fun w6_2' q => ?_)
  rw [q.1]; replace B_r := q.2.1; have G := q.2.2; clear q
  have V_w6'_0 := (V1).trans (G.below (V1).size (fun q hq => by have := (V1).size; simp at hq; omega))
  replace B_q := B_q.only G (by first | (simp; done) | (simp; omega))
  have sG0 := G.size
  clear G
  clear V1
  refine Exists.elim (B_q.row2 (.int .i64 v2) (.int .i64 t2)) (fun w6' q => ?_)
  rw [q.1]; replace B_q := q.2.1; have G := q.2.2; clear q
  have V_w6' := (V_w6'_0).trans (G.below (V_w6'_0).size (fun q hq => by have := (V_w6'_0).size; simp at hq; omega))
  replace B_r := B_r.only G (by first | (simp; done) | (simp; omega))
  have sG1 := G.size
  clear G
  clear V_w6'_0
  have S_w6' : wF.heap.size + 0 ≤ w6'.heap.size := by omega
  clear sG0 sG1
  have e_r := B_r.all2
  have e_q := B_q.all2
  exact bodyPost_ret (v := .tuple #[.int .i64 p, .agg #[.int .i64 v1, .int .i64 t1], .agg #[.int .i64 v2, .int .i64 t2]]) (by simp [results, Try.results35, go_sem, e_r, e_q]) rfl ⟨p, v1, t1, v2, t2, rfl, V_w6'⟩
set_option maxHeartbeats 4000000 in
theorem DrawScaleTagged_any (a : Option Addr) (n c : Nat) (w : World) (h : Cod w w.heap.size a n c) :
    Calls Try.prog 108 #[.slice a n c] w (TgkP w) := by
  have H := Lib.hid h
  clear h

  go_enter Try.func108, Try.ntmps108
  go_upto_region 1 with fail
  refine Exists.elim (Blk.new_ w (b := w.heap.size) rfl 52 #[.int .i64 0, .int .i64 0]) (fun w1' q => ?_)
  rw [q.1]; have B_r := q.2.1; have s_w1' := q.2.2.1; have u_w1' := q.2.2.2; clear q
  have S_w1' : w.heap.size + 1 ≤ w1'.heap.size := Nat.le_of_eq s_w1'.symm
  have V_w1' := (Below.refl w.heap.size w).trans (u_w1'.mono ((Below.refl w.heap.size w)).size)
  clear u_w1' s_w1'
  have h2 := H.out.belowAll V_w1'
  have V0 := V_w1'
  obtain ⟨wL, rfl⟩ : ∃ q, q = w1' := ⟨_, rfl⟩
  go_wp2_with fail

  have C_w2' : Cur (wL.alloc (.cells #[.slice a n c, .int .i64 0, .int .u64 0] 71)) wL.heap.size 0 := Cur.of_new h2
  have V_w2' : Below wL.heap.size wL (wL.alloc (.cells #[.slice a n c, .int .i64 0, .int .u64 0] 71)) := (Below.refl _ _).alloc (Nat.le_refl _) _
  have S_w2' : wL.heap.size < (wL.alloc (.cells #[.slice a n c, .int .i64 0, .int .u64 0] 71)).heap.size := by simp
  generalize (wL.alloc (.cells #[.slice a n c, .int .i64 0, .int .u64 0] 71)) = w2' at *
  replace B_r := B_r.below V_w2'

  refine (anyPrime_any wL.heap.size _ _ C_w2' (by omega)).mono ?_
  rintro e w3' ⟨p, k_w3', rfl, p0, p1, q_w3', C_w3', o_w3'⟩
  have V_w3' := V_w2'.trans (o_w3'.below1 (Nat.le_refl _) V_w2'.size)
  replace B_r := B_r.only o_w3' (by simp; omega)
  have S_w3' := o_w3'.size
  clear o_w3' V_w2'
  go_wp2_with fail
  refine (tagged_any wL.heap.size _ p _ C_w3' (by omega) (by omega)).mono ?_
  rintro e w4' ⟨v1, t1, k_w4', rfl, _, _, q_w4', C_w4', o_w4'⟩
  have V_w4' := V_w3'.trans (o_w4'.below1 (Nat.le_refl _) V_w3'.size)
  replace B_r := B_r.only o_w4' (by simp; omega)
  have S_w4' := o_w4'.size
  clear o_w4' V_w3'
  go_wp2_with fail
  refine (element_any wL.heap.size _ p _ C_w4' (by omega) (by omega)).mono ?_
  rintro e w5' ⟨k, k_w5', rfl, k0, k1, q_w5', C_w5', o_w5'⟩
  have V_w5' := V_w4'.trans (o_w5'.below1 (Nat.le_refl _) V_w4'.size)
  replace B_r := B_r.only o_w5' (by simp; omega)
  have S_w5' := o_w5'.size
  clear o_w5' V_w4'
  have e_r := B_r.all2
  have f_r := B_r.frz2
  go_wp2
  clear e_r f_r
  have V1 := V0.trans ((V_w5').mono V0.size)
  obtain ⟨wF, rfl⟩ : ∃ q, q = w5' := ⟨_, rfl⟩



  refine Exists.elim (B_r.row2 (.int .i64 v1) (.int .i64 t1)) (fun w6' q => ?_)
  rw [q.1]; replace B_r := q.2.1; have G := q.2.2; clear q
  have V_w6' := (V1).trans (G.below (V1).size (fun q hq => by have := (V1).size; simp at hq; omega))
  have sG0 := G.size
  clear G
  clear V1
  have S_w6' : wF.heap.size + 0 ≤ w6'.heap.size := by omega
  clear sG0
  have e_r := B_r.all2
  exact bodyPost_ret (v := .tuple #[.int .i64 p, .agg #[.int .i64 v1, .int .i64 t1], .int .i64 k]) (by simp [results, Try.results108, go_sem, e_r]) rfl ⟨p, v1, t1, k, rfl, V_w6'⟩
set_option maxHeartbeats 4000000 in
theorem DrawShiftTagged_any (a : Option Addr) (n c : Nat) (w : World) (h : Cod w w.heap.size a n c) :
    Calls Try.prog 38 #[.slice a n c] w (TgkP w) := by
  have H := Lib.hid h
  clear h

  go_enter Try.func38, Try.ntmps38
  go_upto_region 1 with fail
  refine Exists.elim (Blk.new_ w (b := w.heap.size) rfl 52 #[.int .i64 0, .int .i64 0]) (fun w1' q => ?_)
  rw [q.1]; have B_r := q.2.1; have s_w1' := q.2.2.1; have u_w1' := q.2.2.2; clear q
  have S_w1' : w.heap.size + 1 ≤ w1'.heap.size := Nat.le_of_eq s_w1'.symm
  have V_w1' := (Below.refl w.heap.size w).trans (u_w1'.mono ((Below.refl w.heap.size w)).size)
  clear u_w1' s_w1'
  have h2 := H.out.belowAll V_w1'
  have V0 := V_w1'
  obtain ⟨wL, rfl⟩ : ∃ q, q = w1' := ⟨_, rfl⟩
  go_wp2_with fail
  refine (DrawScaleTagged_any a n c wL h2).mono ?_; rintro e wM ⟨p, v1, t1, k, rfl, UU⟩

  have UV := UU
  replace B_r := B_r.below UU

  have e_r := B_r.all2
  have f_r := B_r.frz2
  go_wp2
  clear e_r f_r
  have V1 := V0.trans ((UV.trans (((Below.refl wM.heap.size wM)).mono UV.size)).mono V0.size)
  obtain ⟨wF, rfl⟩ : ∃ q, q = wM := ⟨_, rfl⟩



  refine Exists.elim (B_r.row2 (.int .i64 v1) (.int .i64 t1)) (fun w2' q => ?_)
  rw [q.1]; replace B_r := q.2.1; have G := q.2.2; clear q
  have V_w2' := (V1).trans (G.below (V1).size (fun q hq => by have := (V1).size; simp at hq; omega))
  have sG0 := G.size
  clear G
  clear V1
  have S_w2' : wF.heap.size + 0 ≤ w2'.heap.size := by omega
  clear sG0
  have e_r := B_r.all2
  exact bodyPost_ret (v := .tuple #[.int .i64 p, .agg #[.int .i64 v1, .int .i64 t1], .int .i64 k]) (by simp [results, Try.results38, go_sem, e_r]) rfl ⟨p, v1, t1, k, rfl, V_w2'⟩
set_option maxHeartbeats 8000000 in
theorem DrawBatchMisses_any (a : Option Addr) (n c : Nat) (w : World) (h : Cod w w.heap.size a n c) :
    Calls Try.prog 31 #[.slice a n c] w (BmP w) := by

  go_enter Try.func31, Try.ntmps31
  go_wp2_with fail
  have C_w1' : Cur (w.alloc (.cells #[.slice a n c, .int .i64 0, .int .u64 0] 71)) w.heap.size 0 := Cur.of_new h
  have V_w1' : Below w.heap.size w (w.alloc (.cells #[.slice a n c, .int .i64 0, .int .u64 0] 71)) := (Below.refl _ _).alloc (Nat.le_refl _) _
  have S_w1' : w.heap.size < (w.alloc (.cells #[.slice a n c, .int .i64 0, .int .u64 0] 71)).heap.size := by simp
  generalize (w.alloc (.cells #[.slice a n c, .int .i64 0, .int .u64 0] 71)) = w1' at *
  refine (anyPrime_any w.heap.size _ _ C_w1' (by omega)).mono ?_
  rintro e w2' ⟨P, k_w2', rfl, P0, P1, q_w2', C_w2', o_w2'⟩
  have V_w2' := V_w1'.trans (o_w2'.below1 (Nat.le_refl _) V_w1'.size)
  have S_w2' := o_w2'.size
  clear o_w2' V_w1'
  go_wp2_with fail
  refine (among_r w.heap.size _ [2, 3, 3, 5, 5, 7, 7, 11, 13, 97, 251, P] (-7) 257 _ C_w2' (by omega) (by simp) (by simp) (by simp; omega)).mono ?_
  rintro e w3' ⟨p, k_w3', rfl, p0, p1, q_w3', C_w3', o_w3'⟩
  have V_w3' := V_w2'.trans (o_w3'.below1 (Nat.le_refl _) V_w2'.size)
  have S_w3' := o_w3'.size
  clear o_w3' V_w2'
  go_wp2_with fail
  refine (pick_any w.heap.size _ 6 _ C_w3' (by omega)).mono ?_
  rintro e w4' ⟨m, k_w4', rfl, m0, m1, m2, q_w4', C_w4', o_w4'⟩
  have V_w4' := V_w3'.trans (o_w4'.below1 (Nat.le_refl _) V_w3'.size)
  have S_w4' := o_w4'.size
  clear o_w4' V_w3'
  have m3 : m ≤ 5 := by omega
  clear m1 m2
  by_cases h7 : p > 7
  · skip

    go_wp2_with fail
    refine (one_any w.heap.size _ 4 _ C_w4' (by omega)).mono ?_
    rintro e w5' ⟨b, k_w5', rfl, q_w5', C_w5', o_w5'⟩
    have V_w5' := V_w4'.trans (o_w5'.below1 (Nat.le_refl _) V_w4'.size)
    have S_w5' := o_w5'.size
    clear o_w5' V_w4'
    cases b
    · skip

      go_wp2_with fail
      refine (pick_any w.heap.size _ 3 _ C_w5' (by omega)).mono ?_
      rintro e w6' ⟨m', k_w6', rfl, m0', m1', m2', q_w6', C_w6', o_w6'⟩
      have V_w6' := V_w5'.trans (o_w6'.below1 (Nat.le_refl _) V_w5'.size)
      have S_w6' := o_w6'.size
      clear o_w6' V_w5'
      have m3' : m' ≤ 2 := by omega
      clear m1' m2'
      go_wp2_with fail
      refine (one_any w.heap.size _ 16 _ C_w6' (by omega)).mono ?_
      rintro e w7' ⟨b2, k_w7', rfl, q_w7', C_w7', o_w7'⟩
      have V_w7' := V_w6'.trans (o_w7'.below1 (Nat.le_refl _) V_w6'.size)
      have S_w7' := o_w7'.size
      clear o_w7' V_w6'
      cases b2
      · skip

        go_wp2_with fail
        refine (elements_any w.heap.size _ p m' _ C_w7' (by omega) (by omega) (by omega)).mono ?_
        rintro e w8' ⟨ca, cn, cc, cs, k_w8', rfl, hm, oc, cr, q_w8', C_w8', o_w8'⟩
        have V_w8' := V_w7'.trans (o_w8'.below1 (Nat.le_refl _) V_w7'.size)
        have S_w8' := o_w8'.size
        clear o_w8' V_w7'
        go_wp2_with fail
        refine (elements_any w.heap.size _ p m' _ C_w8' (by omega) (by omega) (by omega)).mono ?_
        rintro e w9' ⟨ta, tn, tc, ts, k_w9', rfl, hm', ot, tr, q_w9', C_w9', o_w9'⟩
        have V_w9' := V_w8'.trans (o_w9'.below1 (Nat.le_refl _) V_w8'.size)
        replace oc := oc.cur o_w9' (by omega)
        have S_w9' := o_w9'.size
        clear o_w9' V_w8'
        go_wp2
        exact bodyPost_ret (v := .tuple #[.int .i64 p, .slice ca cn cc, .slice ta tn tc]) (by simp [results, Try.results31, go_sem]) rfl ⟨_, _, _, _, _, _, _, _, _, rfl, oc.ints, ot.ints, V_w9'⟩

      · skip

        go_wp2_with fail
        refine (pick_any w.heap.size _ 2 _ C_w7' (by omega)).mono ?_
        rintro e w10' ⟨mm, k_w10', rfl, mm0, mm1, mm2, q_w10', C_w10', o_w10'⟩
        have V_w10' := V_w7'.trans (o_w10'.below1 (Nat.le_refl _) V_w7'.size)
        have S_w10' := o_w10'.size
        clear o_w10' V_w7'
        have mm3 : mm ≤ 1 := by omega
        clear mm1 mm2
        go_wp2_with fail
        refine (among_r w.heap.size _ [2, 3, 5, 7] 2 7 _ C_w10' (by omega) (by simp) (by simp) (by simp)).mono ?_
        rintro e w11' ⟨pp, k_w11', rfl, pp0, pp1, q_w11', C_w11', o_w11'⟩
        have V_w11' := V_w10'.trans (o_w11'.below1 (Nat.le_refl _) V_w10'.size)
        have S_w11' := o_w11'.size
        clear o_w11' V_w10'
        go_wp2_with fail
        refine (elements_any w.heap.size _ pp (4 + mm) _ C_w11' (by omega) (by omega) (by omega)).mono ?_
        rintro e w12' ⟨ca, cn, cc, cs, k_w12', rfl, hm, oc, cr, q_w12', C_w12', o_w12'⟩
        have V_w12' := V_w11'.trans (o_w12'.below1 (Nat.le_refl _) V_w11'.size)
        have S_w12' := o_w12'.size
        clear o_w12' V_w11'
        go_wp2_with fail
        refine (elements_any w.heap.size _ pp (4 + mm) _ C_w12' (by omega) (by omega) (by omega)).mono ?_
        rintro e w13' ⟨ta, tn, tc, ts, k_w13', rfl, hm', ot, tr, q_w13', C_w13', o_w13'⟩
        have V_w13' := V_w12'.trans (o_w13'.below1 (Nat.le_refl _) V_w12'.size)
        replace oc := oc.cur o_w13' (by omega)
        have S_w13' := o_w13'.size
        clear o_w13' V_w12'
        go_wp2
        exact bodyPost_ret (v := .tuple #[.int .i64 pp, .slice ca cn cc, .slice ta tn tc]) (by simp [results, Try.results31, go_sem]) rfl ⟨_, _, _, _, _, _, _, _, _, rfl, oc.ints, ot.ints, V_w13'⟩


    · skip

      go_wp2_with fail
      refine (one_any w.heap.size _ 16 _ C_w5' (by omega)).mono ?_
      rintro e w14' ⟨b2, k_w14', rfl, q_w14', C_w14', o_w14'⟩
      have V_w14' := V_w5'.trans (o_w14'.below1 (Nat.le_refl _) V_w5'.size)
      have S_w14' := o_w14'.size
      clear o_w14' V_w5'
      cases b2
      · skip

        go_wp2_with fail
        refine (elements_any w.heap.size _ p m _ C_w14' (by omega) (by omega) (by omega)).mono ?_
        rintro e w15' ⟨ca, cn, cc, cs, k_w15', rfl, hm, oc, cr, q_w15', C_w15', o_w15'⟩
        have V_w15' := V_w14'.trans (o_w15'.below1 (Nat.le_refl _) V_w14'.size)
        have S_w15' := o_w15'.size
        clear o_w15' V_w14'
        go_wp2_with fail
        refine (elements_any w.heap.size _ p m _ C_w15' (by omega) (by omega) (by omega)).mono ?_
        rintro e w16' ⟨ta, tn, tc, ts, k_w16', rfl, hm', ot, tr, q_w16', C_w16', o_w16'⟩
        have V_w16' := V_w15'.trans (o_w16'.below1 (Nat.le_refl _) V_w15'.size)
        replace oc := oc.cur o_w16' (by omega)
        have S_w16' := o_w16'.size
        clear o_w16' V_w15'
        go_wp2
        exact bodyPost_ret (v := .tuple #[.int .i64 p, .slice ca cn cc, .slice ta tn tc]) (by simp [results, Try.results31, go_sem]) rfl ⟨_, _, _, _, _, _, _, _, _, rfl, oc.ints, ot.ints, V_w16'⟩

      · skip

        go_wp2_with fail
        refine (pick_any w.heap.size _ 2 _ C_w14' (by omega)).mono ?_
        rintro e w17' ⟨mm, k_w17', rfl, mm0, mm1, mm2, q_w17', C_w17', o_w17'⟩
        have V_w17' := V_w14'.trans (o_w17'.below1 (Nat.le_refl _) V_w14'.size)
        have S_w17' := o_w17'.size
        clear o_w17' V_w14'
        have mm3 : mm ≤ 1 := by omega
        clear mm1 mm2
        go_wp2_with fail
        refine (among_r w.heap.size _ [2, 3, 5, 7] 2 7 _ C_w17' (by omega) (by simp) (by simp) (by simp)).mono ?_
        rintro e w18' ⟨pp, k_w18', rfl, pp0, pp1, q_w18', C_w18', o_w18'⟩
        have V_w18' := V_w17'.trans (o_w18'.below1 (Nat.le_refl _) V_w17'.size)
        have S_w18' := o_w18'.size
        clear o_w18' V_w17'
        go_wp2_with fail
        refine (elements_any w.heap.size _ pp (4 + mm) _ C_w18' (by omega) (by omega) (by omega)).mono ?_
        rintro e w19' ⟨ca, cn, cc, cs, k_w19', rfl, hm, oc, cr, q_w19', C_w19', o_w19'⟩
        have V_w19' := V_w18'.trans (o_w19'.below1 (Nat.le_refl _) V_w18'.size)
        have S_w19' := o_w19'.size
        clear o_w19' V_w18'
        go_wp2_with fail
        refine (elements_any w.heap.size _ pp (4 + mm) _ C_w19' (by omega) (by omega) (by omega)).mono ?_
        rintro e w20' ⟨ta, tn, tc, ts, k_w20', rfl, hm', ot, tr, q_w20', C_w20', o_w20'⟩
        have V_w20' := V_w19'.trans (o_w20'.below1 (Nat.le_refl _) V_w19'.size)
        replace oc := oc.cur o_w20' (by omega)
        have S_w20' := o_w20'.size
        clear o_w20' V_w19'
        go_wp2
        exact bodyPost_ret (v := .tuple #[.int .i64 pp, .slice ca cn cc, .slice ta tn tc]) (by simp [results, Try.results31, go_sem]) rfl ⟨_, _, _, _, _, _, _, _, _, rfl, oc.ints, ot.ints, V_w20'⟩



  · skip

    go_wp2_with fail
    refine (one_any w.heap.size _ 16 _ C_w4' (by omega)).mono ?_
    rintro e w21' ⟨b2, k_w21', rfl, q_w21', C_w21', o_w21'⟩
    have V_w21' := V_w4'.trans (o_w21'.below1 (Nat.le_refl _) V_w4'.size)
    have S_w21' := o_w21'.size
    clear o_w21' V_w4'
    cases b2
    · skip

      go_wp2_with fail
      refine (elements_any w.heap.size _ p m _ C_w21' (by omega) (by omega) (by omega)).mono ?_
      rintro e w22' ⟨ca, cn, cc, cs, k_w22', rfl, hm, oc, cr, q_w22', C_w22', o_w22'⟩
      have V_w22' := V_w21'.trans (o_w22'.below1 (Nat.le_refl _) V_w21'.size)
      have S_w22' := o_w22'.size
      clear o_w22' V_w21'
      go_wp2_with fail
      refine (elements_any w.heap.size _ p m _ C_w22' (by omega) (by omega) (by omega)).mono ?_
      rintro e w23' ⟨ta, tn, tc, ts, k_w23', rfl, hm', ot, tr, q_w23', C_w23', o_w23'⟩
      have V_w23' := V_w22'.trans (o_w23'.below1 (Nat.le_refl _) V_w22'.size)
      replace oc := oc.cur o_w23' (by omega)
      have S_w23' := o_w23'.size
      clear o_w23' V_w22'
      go_wp2
      exact bodyPost_ret (v := .tuple #[.int .i64 p, .slice ca cn cc, .slice ta tn tc]) (by simp [results, Try.results31, go_sem]) rfl ⟨_, _, _, _, _, _, _, _, _, rfl, oc.ints, ot.ints, V_w23'⟩

    · skip

      go_wp2_with fail
      refine (pick_any w.heap.size _ 2 _ C_w21' (by omega)).mono ?_
      rintro e w24' ⟨mm, k_w24', rfl, mm0, mm1, mm2, q_w24', C_w24', o_w24'⟩
      have V_w24' := V_w21'.trans (o_w24'.below1 (Nat.le_refl _) V_w21'.size)
      have S_w24' := o_w24'.size
      clear o_w24' V_w21'
      have mm3 : mm ≤ 1 := by omega
      clear mm1 mm2
      go_wp2_with fail
      refine (among_r w.heap.size _ [2, 3, 5, 7] 2 7 _ C_w24' (by omega) (by simp) (by simp) (by simp)).mono ?_
      rintro e w25' ⟨pp, k_w25', rfl, pp0, pp1, q_w25', C_w25', o_w25'⟩
      have V_w25' := V_w24'.trans (o_w25'.below1 (Nat.le_refl _) V_w24'.size)
      have S_w25' := o_w25'.size
      clear o_w25' V_w24'
      go_wp2_with fail
      refine (elements_any w.heap.size _ pp (4 + mm) _ C_w25' (by omega) (by omega) (by omega)).mono ?_
      rintro e w26' ⟨ca, cn, cc, cs, k_w26', rfl, hm, oc, cr, q_w26', C_w26', o_w26'⟩
      have V_w26' := V_w25'.trans (o_w26'.below1 (Nat.le_refl _) V_w25'.size)
      have S_w26' := o_w26'.size
      clear o_w26' V_w25'
      go_wp2_with fail
      refine (elements_any w.heap.size _ pp (4 + mm) _ C_w26' (by omega) (by omega) (by omega)).mono ?_
      rintro e w27' ⟨ta, tn, tc, ts, k_w27', rfl, hm', ot, tr, q_w27', C_w27', o_w27'⟩
      have V_w27' := V_w26'.trans (o_w27'.below1 (Nat.le_refl _) V_w26'.size)
      replace oc := oc.cur o_w27' (by omega)
      have S_w27' := o_w27'.size
      clear o_w27' V_w26'
      go_wp2
      exact bodyPost_ret (v := .tuple #[.int .i64 pp, .slice ca cn cc, .slice ta tn tc]) (by simp [results, Try.results31, go_sem]) rfl ⟨_, _, _, _, _, _, _, _, _, rfl, oc.ints, ot.ints, V_w27'⟩


end Go.Proofs.Ytjgbhokilagmoaa
