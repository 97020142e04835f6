/- Draws of triples and pairs. -/
import Derived.Test.YthpcmbdkboajcaaCurB
import Derived.Test.YthpcmbdkboajcaaDrawC
import Derived.Test.YthpcmbdkboajcaaGate
import Derived.Test.YthpcmbdkboajcaaField
namespace Go.Proofs.Ythpcmbdkboajcaa
open Go.RowKit
def NumR (w : World) (e : Ending) (w' : World) : Prop := ∃ (p : Int) (a : Option Addr) (n c : Nat) (l : List Int), e = .returned (.tuple #[.int .i64 p, .slice a n c]) ∧ Ints w' a n c l ∧ Below w.heap.size w w'
def NumR3 (w : World) (e : Ending) (w' : World) : Prop := ∃ (p : Int) (a : Option Addr) (n c : Nat) (l : List Int) (a1 : Option Addr) (n1 c1 : Nat) (l1 : List Int) (a2 : Option Addr) (n2 c2 : Nat) (l2 : List Int), e = .returned (.tuple #[.int .i64 p, .slice a n c, .slice a1 n1 c1, .slice a2 n2 c2]) ∧ Ints w' a n c l ∧ Ints w' a1 n1 c1 l1 ∧ Ints w' a2 n2 c2 l2 ∧ Below w.heap.size w w'
set_option maxHeartbeats 4000000 in
theorem DrawGateTriple_any (a : Option Addr) (n c : Nat) (w : World) (h : Cod w w.heap.size a n c) :
    Calls Try.prog 11 #[.slice a n c] w (Num3 w) := by

  go_enter Try.func11, Try.ntmps11
  go_wp2_with fail
  have C_w1' : Cur (w.alloc (.cells #[.slice a n c, .int .i64 0, .int .u64 0] 62)) w.heap.size 0 := Cur.of_new h
  have V_w1' : Below w.heap.size w (w.alloc (.cells #[.slice a n c, .int .i64 0, .int .u64 0] 62)) := (Below.refl _ _).alloc (Nat.le_refl _) _
  have S_w1' : w.heap.size < (w.alloc (.cells #[.slice a n c, .int .i64 0, .int .u64 0] 62)).heap.size := by simp
  generalize (w.alloc (.cells #[.slice a n c, .int .i64 0, .int .u64 0] 62)) = w1' at *
  refine (anyPrime_any w.heap.size _ _ C_w1' (by omega)).mono ?_
  rintro e w2' ⟨p, k_w2', rfl, p0, p1, q_w2', C_w2', o_w2'⟩
  have V_w2' := V_w1'.trans (o_w2'.below1 (Nat.le_refl _) V_w1'.size)
  have S_w2' := o_w2'.size
  clear o_w2' V_w1'
  go_wp2_with fail
  refine (secret_any w.heap.size _ _ C_w2' (by omega)).mono ?_
  rintro e w3' ⟨y, k_w3', rfl, y0, y1, q_w3', C_w3', o_w3'⟩
  have V_w3' := V_w2'.trans (o_w3'.below1 (Nat.le_refl _) V_w2'.size)
  have S_w3' := o_w3'.size
  clear o_w3' V_w2'
  go_wp2_with fail
  refine (among_r w.heap.size _ [0, 1, 5, 99, 100, -1] (-1) 100 _ C_w3' (by omega) (by decide) (by decide) (by decide)).mono ?_
  rintro e w4' ⟨z, k_w4', rfl, z0, z1, q_w4', C_w4', o_w4'⟩
  have V_w4' := V_w3'.trans (o_w4'.below1 (Nat.le_refl _) V_w3'.size)
  have S_w4' := o_w4'.size
  clear o_w4' V_w3'
  go_wp2
  go_ret3
  exact ⟨_, _, _, rfl, V_w4'⟩
set_option maxHeartbeats 4000000 in
theorem DrawTripleFits_any (a : Option Addr) (n c : Nat) (w : World) (h : Cod w w.heap.size a n c) :
    Calls Try.prog 15 #[.slice a n c] w (NumR w) := by

  go_enter Try.func15, Try.ntmps15
  go_wp2_with fail
  have C_w1' : Cur (w.alloc (.cells #[.slice a n c, .int .i64 0, .int .u64 0] 62)) w.heap.size 0 := Cur.of_new h
  have V_w1' : Below w.heap.size w (w.alloc (.cells #[.slice a n c, .int .i64 0, .int .u64 0] 62)) := (Below.refl _ _).alloc (Nat.le_refl _) _
  have S_w1' : w.heap.size < (w.alloc (.cells #[.slice a n c, .int .i64 0, .int .u64 0] 62)).heap.size := by simp
  generalize (w.alloc (.cells #[.slice a n c, .int .i64 0, .int .u64 0] 62)) = w1' at *
  refine (anyPrime_any w.heap.size _ _ C_w1' (by omega)).mono ?_
  rintro e w2' ⟨p, k_w2', rfl, p0, p1, q_w2', C_w2', o_w2'⟩
  have V_w2' := V_w1'.trans (o_w2'.below1 (Nat.le_refl _) V_w1'.size)
  have S_w2' := o_w2'.size
  clear o_w2' V_w1'
  go_wp2_with fail
  refine (fpGood_any p w2').mono ?_
  rintro e w3' ⟨rfl, q_w3'⟩
  have u_w3' := below_of_quiet q_w3'
  clear q_w3'
  have C_w3' := C_w2'.below u_w3'
  have S_w3' := u_w3'.size
  have V_w3' : Below w.heap.size w w3' := V_w2'.trans (u_w3'.mono V_w2'.size)
  clear V_w2'
  clear u_w3'
  cases hp : isPr p

  · go_wp2_with fail
    refine (pick_any w.heap.size _ 12 _ C_w3' (by omega)).mono ?_
    rintro e w4' ⟨s, k_w4', rfl, s0, s1, s2, q_w4', C_w4', o_w4'⟩
    have V_w4' := V_w3'.trans (o_w4'.below1 (Nat.le_refl _) V_w3'.size)
    have S_w4' := o_w4'.size
    clear o_w4' V_w3'
    clear s1
    go_wp2_with fail
    refine (elements_any w.heap.size _ _ _ _ C_w4' (by omega) (by omega) (by omega)).mono ?_
    rintro e w5' ⟨la, ln, lc, l, k_w5', rfl, hm, ol, lr, q_w5', C_w5', o_w5'⟩
    have V_w5' := V_w4'.trans (o_w5'.below1 (Nat.le_refl _) V_w4'.size)
    have S_w5' := o_w5'.size
    clear o_w5' V_w4'
    go_wp2
    go_ret2
    exact ⟨_, _, _, _, _, rfl, ol.ints, V_w5'⟩

  · go_wp2_with fail
    refine (one_any w.heap.size _ _ _ C_w3' (by omega)).mono ?_
    rintro e w6' ⟨b, k_w6', rfl, q_w6', C_w6', o_w6'⟩
    have V_w6' := V_w3'.trans (o_w6'.below1 (Nat.le_refl _) V_w3'.size)
    have S_w6' := o_w6'.size
    clear o_w6' V_w3'
    have hpr := isPr_range hp
    cases b

    · go_wp2_with fail
      refine (pick_any w.heap.size _ 12 _ C_w6' (by omega)).mono ?_
      rintro e w7' ⟨s, k_w7', rfl, s0, s1, s2, q_w7', C_w7', o_w7'⟩
      have V_w7' := V_w6'.trans (o_w7'.below1 (Nat.le_refl _) V_w6'.size)
      have S_w7' := o_w7'.size
      clear o_w7' V_w6'
      clear s1
      go_wp2_with fail
      refine (elements_any w.heap.size _ _ _ _ C_w7' (by omega) (by omega) (by omega)).mono ?_
      rintro e w8' ⟨la, ln, lc, l, k_w8', rfl, hm, ol, lr, q_w8', C_w8', o_w8'⟩
      have V_w8' := V_w7'.trans (o_w8'.below1 (Nat.le_refl _) V_w7'.size)
      have S_w8' := o_w8'.size
      clear o_w8' V_w7'
      go_wp2
      go_ret2
      exact ⟨_, _, _, _, _, rfl, ol.ints, V_w8'⟩

    · go_wp2_with fail
      refine (pick_any w.heap.size _ 60000 _ C_w6' (by omega)).mono ?_
      rintro e w9' ⟨s, k_w9', rfl, s0, s1, s2, q_w9', C_w9', o_w9'⟩
      have V_w9' := V_w6'.trans (o_w9'.below1 (Nat.le_refl _) V_w6'.size)
      have S_w9' := o_w9'.size
      clear o_w9' V_w6'
      clear s1
      go_wp2_with fail
      refine (pick_any w.heap.size _ 9 _ C_w9' (by omega)).mono ?_
      rintro e w10' ⟨t, k_w10', rfl, t0, t1, t2, q_w10', C_w10', o_w10'⟩
      have V_w10' := V_w9'.trans (o_w10'.below1 (Nat.le_refl _) V_w9'.size)
      have S_w10' := o_w10'.size
      clear o_w10' V_w9'
      clear t1
      go_wp2_with fail
      refine (smTriple_any p s t _ (by omega) (by omega) (by omega) (by omega) (by omega) (by omega)).mono ?_
      rintro e w11' ⟨la, lc, rfl, ol, u_w11'⟩
      have C_w11' := C_w10'.below u_w11'
      have S_w11' := u_w11'.size
      have V_w11' : Below w.heap.size w w11' := V_w10'.trans (u_w11'.mono V_w10'.size)
      clear V_w10'
      clear u_w11'
      go_wp2
      go_ret2
      exact ⟨_, _, _, _, _, rfl, ol.ints, V_w11'⟩
set_option maxHeartbeats 4000000 in
theorem DrawMultiplyShared_any (a : Option Addr) (n c : Nat) (w : World) (h : Cod w w.heap.size a n c) :
    Calls Try.prog 6 #[.slice a n c] w (NumR3 w) := by

  go_enter Try.func6, Try.ntmps6
  go_wp2_with fail
  have C_w1' : Cur (w.alloc (.cells #[.slice a n c, .int .i64 0, .int .u64 0] 62)) w.heap.size 0 := Cur.of_new h
  have V_w1' : Below w.heap.size w (w.alloc (.cells #[.slice a n c, .int .i64 0, .int .u64 0] 62)) := (Below.refl _ _).alloc (Nat.le_refl _) _
  have S_w1' : w.heap.size < (w.alloc (.cells #[.slice a n c, .int .i64 0, .int .u64 0] 62)).heap.size := by simp
  generalize (w.alloc (.cells #[.slice a n c, .int .i64 0, .int .u64 0] 62)) = w1' at *
  refine (anyPrime_any w.heap.size _ _ C_w1' (by omega)).mono ?_
  rintro e w2' ⟨p, k_w2', rfl, p0, p1, q_w2', C_w2', o_w2'⟩
  have V_w2' := V_w1'.trans (o_w2'.below1 (Nat.le_refl _) V_w1'.size)
  have S_w2' := o_w2'.size
  clear o_w2' V_w1'
  go_wp2_with fail
  refine (elements_any w.heap.size _ p 6 _ C_w2' (by omega) (by omega) (by omega)).mono ?_
  rintro e w3' ⟨ta, tn, tc, t, k_w3', rfl, hm, ot, lr, q_w3', C_w3', o_w3'⟩
  have V_w3' := V_w2'.trans (o_w3'.below1 (Nat.le_refl _) V_w2'.size)
  have S_w3' := o_w3'.size
  clear o_w3' V_w2'
  have H_tn : tn ≤ 30 := by omega
  clear hm lr
  go_wp2_with fail
  refine (fpGood_any p w3').mono ?_
  rintro e w4' ⟨rfl, q_w4'⟩
  have u_w4' := below_of_quiet q_w4'
  clear q_w4'
  replace ot := ot.below u_w4'
  have C_w4' := C_w3'.below u_w4'
  have S_w4' := u_w4'.size
  have V_w4' : Below w.heap.size w w4' := V_w3'.trans (u_w4'.mono V_w3'.size)
  clear V_w3'
  clear u_w4'














  cases hp : isPr p

  · skip
    go_wp2_with fail
    refine (elements_any w.heap.size _ p 2 _ C_w4' (by omega) (by omega) (by omega)).mono ?_
    rintro e w5' ⟨xa, xn, xc, x, k_w5', rfl, hm, ox, lr, q_w5', C_w5', o_w5'⟩
    have V_w5' := V_w4'.trans (o_w5'.below1 (Nat.le_refl _) V_w4'.size)
    replace ot := ot.cur o_w5' (by omega)
    have S_w5' := o_w5'.size
    clear o_w5' V_w4'
    have H_xn : xn ≤ 30 := by omega
    clear hm lr
    go_wp2_with fail
    refine (pick_any w.heap.size _ 24 _ C_w5' (by omega)).mono ?_
    rintro e w6' ⟨s, k_w6', rfl, s0, s1, s2, q_w6', C_w6', o_w6'⟩
    have V_w6' := V_w5'.trans (o_w6'.below1 (Nat.le_refl _) V_w5'.size)
    replace ot := ot.cur o_w6' (by omega)
    replace ox := ox.cur o_w6' (by omega)
    have S_w6' := o_w6'.size
    clear o_w6' V_w5'
    clear s1
    go_wp2_with fail
    refine (elements_any w.heap.size _ p _ _ C_w6' (by omega) (by omega) (by omega)).mono ?_
    rintro e w7' ⟨ya, yn, yc, y, k_w7', rfl, hm, oy, lr, q_w7', C_w7', o_w7'⟩
    have V_w7' := V_w6'.trans (o_w7'.below1 (Nat.le_refl _) V_w6'.size)
    replace ot := ot.cur o_w7' (by omega)
    replace ox := ox.cur o_w7' (by omega)
    have S_w7' := o_w7'.size
    clear o_w7' V_w6'
    go_wp2
    refine bodyPost_ret (results_tmp4 rfl _ _ _) rfl ?_
    exact ⟨_, _, _, _, _, _, _, _, _, _, _, _, _, rfl, ot.ints, ox.ints, oy.ints, V_w7'⟩

  · go_wp2_with fail
    refine (one_any w.heap.size _ _ _ C_w4' (by omega)).mono ?_
    rintro e w8' ⟨b, k_w8', rfl, q_w8', C_w8', o_w8'⟩
    have V_w8' := V_w4'.trans (o_w8'.below1 (Nat.le_refl _) V_w4'.size)
    replace ot := ot.cur o_w8' (by omega)
    have S_w8' := o_w8'.size
    clear o_w8' V_w4'
    have hpr := isPr_range hp
    cases b

    · go_wp2_with fail
      refine (pick_any w.heap.size _ 60000 _ C_w8' (by omega)).mono ?_
      rintro e w9' ⟨s', k_w9', rfl, r0, r1, r2, q_w9', C_w9', o_w9'⟩
      have V_w9' := V_w8'.trans (o_w9'.below1 (Nat.le_refl _) V_w8'.size)
      replace ot := ot.cur o_w9' (by omega)
      have S_w9' := o_w9'.size
      clear o_w9' V_w8'
      clear r1
      go_wp2_with fail
      refine (pick_any w.heap.size _ 9 _ C_w9' (by omega)).mono ?_
      rintro e w10' ⟨t', k_w10', rfl, z0, z1, z2, q_w10', C_w10', o_w10'⟩
      have V_w10' := V_w9'.trans (o_w10'.below1 (Nat.le_refl _) V_w9'.size)
      replace ot := ot.cur o_w10' (by omega)
      have S_w10' := o_w10'.size
      clear o_w10' V_w9'
      clear z1
      clear ot
      go_wp2_with fail
      refine (smTriple_any p s' t' _ (by omega) (by omega) (by omega) (by omega) (by omega) (by omega)).mono ?_
      rintro e w11' ⟨qa, qc, rfl, ot, u_w11'⟩
      have C_w11' := C_w10'.below u_w11'
      have S_w11' := u_w11'.size
      have V_w11' : Below w.heap.size w w11' := V_w10'.trans (u_w11'.mono V_w10'.size)
      clear V_w10'
      clear u_w11'
      go_wp2_with fail
      refine (elements_any w.heap.size _ p 2 _ C_w11' (by omega) (by omega) (by omega)).mono ?_
      rintro e w12' ⟨xa, xn, xc, x, k_w12', rfl, hm, ox, lr, q_w12', C_w12', o_w12'⟩
      have V_w12' := V_w11'.trans (o_w12'.below1 (Nat.le_refl _) V_w11'.size)
      replace ot := ot.cur o_w12' (by omega)
      have S_w12' := o_w12'.size
      clear o_w12' V_w11'
      have H_xn : xn ≤ 30 := by omega
      clear hm lr
      go_wp2_with fail
      refine (pick_any w.heap.size _ 24 _ C_w12' (by omega)).mono ?_
      rintro e w13' ⟨s, k_w13', rfl, s0, s1, s2, q_w13', C_w13', o_w13'⟩
      have V_w13' := V_w12'.trans (o_w13'.below1 (Nat.le_refl _) V_w12'.size)
      replace ot := ot.cur o_w13' (by omega)
      replace ox := ox.cur o_w13' (by omega)
      have S_w13' := o_w13'.size
      clear o_w13' V_w12'
      clear s1
      go_wp2_with fail
      refine (elements_any w.heap.size _ p _ _ C_w13' (by omega) (by omega) (by omega)).mono ?_
      rintro e w14' ⟨ya, yn, yc, y, k_w14', rfl, hm, oy, lr, q_w14', C_w14', o_w14'⟩
      have V_w14' := V_w13'.trans (o_w14'.below1 (Nat.le_refl _) V_w13'.size)
      replace ot := ot.cur o_w14' (by omega)
      replace ox := ox.cur o_w14' (by omega)
      have S_w14' := o_w14'.size
      clear o_w14' V_w13'
      go_wp2
      refine bodyPost_ret (results_tmp4 rfl _ _ _) rfl ?_
      exact ⟨_, _, _, _, _, _, _, _, _, _, _, _, _, rfl, ot.ints, ox.ints, oy.ints, V_w14'⟩

    · skip
      go_wp2_with fail
      refine (elements_any w.heap.size _ p 2 _ C_w8' (by omega) (by omega) (by omega)).mono ?_
      rintro e w15' ⟨xa, xn, xc, x, k_w15', rfl, hm, ox, lr, q_w15', C_w15', o_w15'⟩
      have V_w15' := V_w8'.trans (o_w15'.below1 (Nat.le_refl _) V_w8'.size)
      replace ot := ot.cur o_w15' (by omega)
      have S_w15' := o_w15'.size
      clear o_w15' V_w8'
      have H_xn : xn ≤ 30 := by omega
      clear hm lr
      go_wp2_with fail
      refine (pick_any w.heap.size _ 24 _ C_w15' (by omega)).mono ?_
      rintro e w16' ⟨s, k_w16', rfl, s0, s1, s2, q_w16', C_w16', o_w16'⟩
      have V_w16' := V_w15'.trans (o_w16'.below1 (Nat.le_refl _) V_w15'.size)
      replace ot := ot.cur o_w16' (by omega)
      replace ox := ox.cur o_w16' (by omega)
      have S_w16' := o_w16'.size
      clear o_w16' V_w15'
      clear s1
      go_wp2_with fail
      refine (elements_any w.heap.size _ p _ _ C_w16' (by omega) (by omega) (by omega)).mono ?_
      rintro e w17' ⟨ya, yn, yc, y, k_w17', rfl, hm, oy, lr, q_w17', C_w17', o_w17'⟩
      have V_w17' := V_w16'.trans (o_w17'.below1 (Nat.le_refl _) V_w16'.size)
      replace ot := ot.cur o_w17' (by omega)
      replace ox := ox.cur o_w17' (by omega)
      have S_w17' := o_w17'.size
      clear o_w17' V_w16'
      go_wp2
      refine bodyPost_ret (results_tmp4 rfl _ _ _) rfl ?_
      exact ⟨_, _, _, _, _, _, _, _, _, _, _, _, _, rfl, ot.ints, ox.ints, oy.ints, V_w17'⟩
end Go.Proofs.Ythpcmbdkboajcaa
