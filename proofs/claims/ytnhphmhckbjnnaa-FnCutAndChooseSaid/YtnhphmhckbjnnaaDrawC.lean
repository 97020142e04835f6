/- Draws of copies, chances, sets. -/
import Derived.Test.YtnhphmhckbjnnaaCurB
import Derived.Deep.DeepCutAuto
namespace Go.Proofs.Ytnhphmhckbjnnaa
open Go.RowKit

def Num1 (w : World) (e : Ending) (w' : World) : Prop := ∃ x : Int, e = .returned (.int .i64 x) ∧ Below w.heap.size w w'
def Num2 (w : World) (e : Ending) (w' : World) : Prop := ∃ x y : Int, e = .returned (.tuple #[.int .i64 x, .int .i64 y]) ∧ Below w.heap.size w w'
def Num3 (w : World) (e : Ending) (w' : World) : Prop := ∃ x y z : Int, e = .returned (.tuple #[.int .i64 x, .int .i64 y, .int .i64 z]) ∧ Below w.heap.size w w'
def Num4 (w : World) (e : Ending) (w' : World) : Prop := ∃ x y z u : Int, e = .returned (.tuple #[.int .i64 x, .int .i64 y, .int .i64 z, .int .i64 u]) ∧ Below w.heap.size w w'
def Row1 (w : World) (e : Ending) (w' : World) : Prop := ∃ (a : Option Addr) (n c : Nat) (l : List Int), e = .returned (.slice a n c) ∧ Ints w' a n c l ∧ Below w.heap.size w w'
def CopP (w : World) (g k : Nat) (e : Ending) (w' : World) : Prop := ∃ (x y : Int) (k' : Nat), e = .returned (.tuple #[.int .i64 x, .int .i64 y]) ∧ (-100 ≤ x ∧ x ≤ 100000) ∧ k' ≤ k + 8 ∧ Cur w' g k' ∧ Only [g] w w'
set_option maxHeartbeats 4000000 in
theorem copies_any (g k : Nat) (w : World) (h : Cur w g k) (hk : k ≤ 800000000000000) :
    Calls Try.prog 27 #[.pointer (some ⟨g, 0, none⟩)] w (CopP w g k) := by


  go_enter Try.func27, Try.ntmps27
  go_wp2_with fail
  refine (pick_any g _ 12 _ h (by omega)).mono ?_
  rintro e w1' ⟨n, k_w1', rfl, n0, n1, n2, q_w1', C_w1', o_w1'⟩
  have V_w1' := (Only.refl [g] w).trans o_w1'
  have S_w1' := o_w1'.size
  clear o_w1' 
  go_wp2_with fail
  refine (pick_any g _ (1 + n) _ C_w1' (by omega)).mono ?_
  rintro e w2' ⟨t, k_w2', rfl, t0, t1, t2, q_w2', C_w2', o_w2'⟩
  have V_w2' := V_w1'.trans o_w2'
  have S_w2' := o_w2'.size
  clear o_w2' V_w1'
  go_wp2_with fail
  refine (pick_any g _ 16 _ C_w2' (by omega)).mono ?_
  rintro e w3' ⟨s, k_w3', rfl, s0, s1, s2, q_w3', C_w3', o_w3'⟩
  have V_w3' := V_w2'.trans o_w3'
  have S_w3' := o_w3'.size
  clear o_w3' V_w2'
  clear t1 s1
  by_cases h0 : s = 0
  · subst h0

    go_wp2_with fail
    refine (among_r g _ [0, 40, 41] 0 41 _ C_w3' (by omega) (by decide) (by decide) (by decide)).mono ?_
    rintro e w4' ⟨x, k_w4', rfl, x0, x1, q_w4', C_w4', o_w4'⟩
    have V_w4' := V_w3'.trans o_w4'
    have S_w4' := o_w4'.size
    clear o_w4' V_w3'
    go_wp2
    go_ret2
    exact ⟨_, _, _, rfl, by omega, by omega, C_w4', V_w4'⟩

  · have b0 : ((s == 0) : Bool) = false := by simpa using h0
    by_cases h1 : s = 1
    · subst h1

      go_wp2_with fail
      refine (among_r g _ [-1, 1 + n] (-1) 100 _ C_w3' (by omega) (by simp) (by simp) (by simp; omega)).mono ?_
      rintro e w5' ⟨x, k_w5', rfl, x0, x1, q_w5', C_w5', o_w5'⟩
      have V_w5' := V_w3'.trans o_w5'
      have S_w5' := o_w5'.size
      clear o_w5' V_w3'
      go_wp2
      go_ret2
      exact ⟨_, _, _, rfl, by omega, by omega, C_w5', V_w5'⟩

    · have b1 : ((s == 1) : Bool) = false := by simpa using h1
      clear h0 h1
      go_wp2
      go_ret2
      exact ⟨_, _, _, rfl, by omega, by omega, C_w3', V_w3'⟩
set_option maxHeartbeats 4000000 in
theorem DrawAllBadChance_any (a : Option Addr) (n c : Nat) (w : World) (h : Cod w w.heap.size a n c) :
    Calls Try.prog 37 #[.slice a n c] w (Num2 w) := by

  go_enter Try.func37, Try.ntmps37
  go_wp2_with fail
  have C_w1' : Cur (w.alloc (.cells #[.slice a n c, .int .i64 0, .int .u64 0] 49)) w.heap.size 0 := Cur.of_new h
  have V_w1' : Below w.heap.size w (w.alloc (.cells #[.slice a n c, .int .i64 0, .int .u64 0] 49)) := (Below.refl _ _).alloc (Nat.le_refl _) _
  have S_w1' : w.heap.size < (w.alloc (.cells #[.slice a n c, .int .i64 0, .int .u64 0] 49)).heap.size := by simp
  generalize (w.alloc (.cells #[.slice a n c, .int .i64 0, .int .u64 0] 49)) = w1' at *
  refine (copies_any w.heap.size _ _ C_w1' (by omega)).mono ?_
  rintro e w2' ⟨x, y, k_w2', rfl, x0, q_w2', C_w2', o_w2'⟩
  have V_w2' := V_w1'.trans (o_w2'.below1 (Nat.le_refl _) V_w1'.size)
  have S_w2' := o_w2'.size
  clear o_w2' V_w1'
  go_wp2
  go_ret2
  exact ⟨_, _, rfl, V_w2'⟩
theorem DrawWorstMajority_any (a : Option Addr) (n c : Nat) (w : World) (h : Cod w w.heap.size a n c) :
    Calls Try.prog 10 #[.slice a n c] w (Num2 w) := by
  go_enter Try.func10, Try.ntmps10
  go_wp2_with fail
  refine (DrawAllBadChance_any a n c w h).mono ?_; rintro e w1 ⟨x, y, rfl, u⟩
  go_wp2
  go_ret2
  exact ⟨x, y, rfl, u⟩
set_option maxHeartbeats 4000000 in
theorem DrawMissChance_any (a : Option Addr) (n c : Nat) (w : World) (h : Cod w w.heap.size a n c) :
    Calls Try.prog 6 #[.slice a n c] w (Num3 w) := by

  go_enter Try.func6, Try.ntmps6
  go_wp2_with fail
  have C_w1' : Cur (w.alloc (.cells #[.slice a n c, .int .i64 0, .int .u64 0] 49)) w.heap.size 0 := Cur.of_new h
  have V_w1' : Below w.heap.size w (w.alloc (.cells #[.slice a n c, .int .i64 0, .int .u64 0] 49)) := (Below.refl _ _).alloc (Nat.le_refl _) _
  have S_w1' : w.heap.size < (w.alloc (.cells #[.slice a n c, .int .i64 0, .int .u64 0] 49)).heap.size := by simp
  generalize (w.alloc (.cells #[.slice a n c, .int .i64 0, .int .u64 0] 49)) = w1' at *
  refine (copies_any w.heap.size _ _ C_w1' (by omega)).mono ?_
  rintro e w2' ⟨x, y, k_w2', rfl, x0, q_w2', C_w2', o_w2'⟩
  have V_w2' := V_w1'.trans (o_w2'.below1 (Nat.le_refl _) V_w1'.size)
  have S_w2' := o_w2'.size
  clear o_w2' V_w1'
  go_wp2_with fail
  refine (l1Most_any _ _ _).mono ?_
  rintro e w3' ⟨rfl, q_w3'⟩
  have u_w3' := below_of_quiet q_w3'
  clear q_w3'
  have C_w3' := C_w2'.below u_w3'
  have S_w3' := u_w3'.size
  have V_w3' : Below w.heap.size w w3' := V_w2'.trans (u_w3'.mono V_w2'.size)
  clear V_w2'
  clear u_w3'
  go_wp2_with fail
  refine (pick_any w.heap.size _ _ _ C_w3' (by omega)).mono ?_
  rintro e w4' ⟨z, k_w4', rfl, z0, z1, z2, q_w4', C_w4', o_w4'⟩
  have V_w4' := V_w3'.trans (o_w4'.below1 (Nat.le_refl _) V_w3'.size)
  have S_w4' := o_w4'.size
  clear o_w4' V_w3'
  go_wp2_with fail
  refine (pick_any w.heap.size _ 24 _ C_w4' (by omega)).mono ?_
  rintro e w5' ⟨u, k_w5', rfl, u0, u1, u2, q_w5', C_w5', o_w5'⟩
  have V_w5' := V_w4'.trans (o_w5'.below1 (Nat.le_refl _) V_w4'.size)
  have S_w5' := o_w5'.size
  clear o_w5' V_w4'
  clear z1 u1
  go_wp2
  go_ret3
  exact ⟨_, _, _, rfl, V_w5'⟩
set_option maxHeartbeats 4000000 in
set_option maxRecDepth 100000 in
theorem DrawCompareChances_any (a : Option Addr) (n c : Nat) (w : World) (h : Cod w w.heap.size a n c) :
    Calls Try.prog 22 #[.slice a n c] w (Num4 w) := by

  go_enter Try.func22, Try.ntmps22
  go_wp2_with fail
  have C_w1' : Cur (w.alloc (.cells #[.slice a n c, .int .i64 0, .int .u64 0] 49)) w.heap.size 0 := Cur.of_new h
  have V_w1' : Below w.heap.size w (w.alloc (.cells #[.slice a n c, .int .i64 0, .int .u64 0] 49)) := (Below.refl _ _).alloc (Nat.le_refl _) _
  have S_w1' : w.heap.size < (w.alloc (.cells #[.slice a n c, .int .i64 0, .int .u64 0] 49)).heap.size := by simp
  generalize (w.alloc (.cells #[.slice a n c, .int .i64 0, .int .u64 0] 49)) = w1' at *
  refine (pick_any w.heap.size _ 60 _ C_w1' (by omega)).mono ?_
  rintro e w2' ⟨x, k_w2', rfl, x0, x1, x2, q_w2', C_w2', o_w2'⟩
  have V_w2' := V_w1'.trans (o_w2'.below1 (Nat.le_refl _) V_w1'.size)
  have S_w2' := o_w2'.size
  clear o_w2' V_w1'
  clear x1
  go_wp2_with fail
  have OL : Own (w2'.alloc (.cells #[.int .i64 0, .int .i64 1, .int .i64 2, .int .i64 3, .int .i64 5, .int .i64 999999999999, .int .i64 1000000000000, .int .i64 x] 3)) w2'.heap.size (some ⟨w2'.heap.size, 0, none⟩) 8 8 [0, 1, 2, 3, 5, 999999999999, 1000000000000, x] := Own.lit w2' w2'.heap.size [0, 1, 2, 3, 5, 999999999999, 1000000000000, x] (Nat.le_refl _) (by simp [maxLen])
  have C_w3' : Cur (w2'.alloc (.cells #[.int .i64 0, .int .i64 1, .int .i64 2, .int .i64 3, .int .i64 5, .int .i64 999999999999, .int .i64 1000000000000, .int .i64 x] 3)) w.heap.size _ := C_w2'.alloc _
  have V_w3' : Below w.heap.size w (w2'.alloc (.cells #[.int .i64 0, .int .i64 1, .int .i64 2, .int .i64 3, .int .i64 5, .int .i64 999999999999, .int .i64 1000000000000, .int .i64 x] 3)) := V_w2'.alloc V_w2'.size _
  have S_w3' : w2'.heap.size < (w2'.alloc (.cells #[.int .i64 0, .int .i64 1, .int .i64 2, .int .i64 3, .int .i64 5, .int .i64 999999999999, .int .i64 1000000000000, .int .i64 x] 3)).heap.size := by simp
  generalize (w2'.alloc (.cells #[.int .i64 0, .int .i64 1, .int .i64 2, .int .i64 3, .int .i64 5, .int .i64 999999999999, .int .i64 1000000000000, .int .i64 x] 3)) = w3' at *
  clear V_w2'
  have hg : w.heap.size < w2'.heap.size := by omega
  refine (among_any w.heap.size _ _ _ _ _ _ C_w3' (by omega) OL.ints (by omega) (OL.ne_cur hg)).mono ?_
  rintro e w4' ⟨p, k_w4', rfl, hp, q_w4', C_w4', o_w4'⟩
  have V_w4' := V_w3'.trans (o_w4'.below1 (Nat.le_refl _) V_w3'.size)
  replace OL := OL.cur o_w4' (by omega)
  have S_w4' := o_w4'.size
  clear o_w4' V_w3'
  clear hp
  go_wp2_with fail
  refine (among_any w.heap.size _ _ _ _ _ _ C_w4' (by omega) OL.ints (by omega) (OL.ne_cur hg)).mono ?_
  rintro e w5' ⟨q, k_w5', rfl, hq, q_w5', C_w5', o_w5'⟩
  have V_w5' := V_w4'.trans (o_w5'.below1 (Nat.le_refl _) V_w4'.size)
  replace OL := OL.cur o_w5' (by omega)
  have S_w5' := o_w5'.size
  clear o_w5' V_w4'
  clear hq
  go_wp2_with fail
  refine (l1Most_any _ _ _).mono ?_
  rintro e w6' ⟨rfl, q_w6'⟩
  have u_w6' := below_of_quiet q_w6'
  clear q_w6'
  replace OL := OL.below u_w6'
  have C_w6' := C_w5'.below u_w6'
  have S_w6' := u_w6'.size
  have V_w6' : Below w.heap.size w w6' := V_w5'.trans (u_w6'.mono V_w5'.size)
  clear V_w5'
  clear u_w6'
  go_wp2_with fail
  refine (among_any w.heap.size _ _ _ _ _ _ C_w6' (by omega) OL.ints (by omega) (OL.ne_cur hg)).mono ?_
  rintro e w7' ⟨r, k_w7', rfl, hr, q_w7', C_w7', o_w7'⟩
  have V_w7' := V_w6'.trans (o_w7'.below1 (Nat.le_refl _) V_w6'.size)
  replace OL := OL.cur o_w7' (by omega)
  have S_w7' := o_w7'.size
  clear o_w7' V_w6'
  clear hr
  go_wp2_with fail
  refine (among_any w.heap.size _ _ _ _ _ _ C_w7' (by omega) OL.ints (by omega) (OL.ne_cur hg)).mono ?_
  rintro e w8' ⟨s, k_w8', rfl, hs, q_w8', C_w8', o_w8'⟩
  have V_w8' := V_w7'.trans (o_w8'.below1 (Nat.le_refl _) V_w7'.size)
  replace OL := OL.cur o_w8' (by omega)
  have S_w8' := o_w8'.size
  clear o_w8' V_w7'
  clear hs
  go_wp2_with fail
  refine (l1Most_any _ _ _).mono ?_
  rintro e w9' ⟨rfl, q_w9'⟩
  have u_w9' := below_of_quiet q_w9'
  clear q_w9'
  replace OL := OL.below u_w9'
  have C_w9' := C_w8'.below u_w9'
  have S_w9' := u_w9'.size
  have V_w9' : Below w.heap.size w w9' := V_w8'.trans (u_w9'.mono V_w8'.size)
  clear V_w8'
  clear u_w9'
  generalize max q 1 = q' at *
  generalize max s 1 = s' at *
  clear OL
  go_wp2_with fail
  refine (one_any w.heap.size _ 16 _ C_w9' (by omega)).mono ?_
  rintro e w10' ⟨b1, k_w10', rfl, q_w10', C_w10', o_w10'⟩
  have V_w10' := V_w9'.trans (o_w10'.below1 (Nat.le_refl _) V_w9'.size)
  have S_w10' := o_w10'.size
  clear o_w10' V_w9'
  cases b1
  · go_wp2
    refine bodyPost_ret (results_tmp4 rfl _ _ _) rfl ?_
    exact ⟨_, _, _, _, rfl, V_w10'⟩
  · go_wp2_with fail
    refine (one_any w.heap.size _ 2 _ C_w10' (by omega)).mono ?_
    rintro e w11' ⟨b2, k_w11', rfl, q_w11', C_w11', o_w11'⟩
    have V_w11' := V_w10'.trans (o_w11'.below1 (Nat.le_refl _) V_w10'.size)
    have S_w11' := o_w11'.size
    clear o_w11' V_w10'
    cases b2
    · skip

      go_wp2_with fail
      refine (among_r w.heap.size _ [0, 1000000000001] 0 1000000000001 _ C_w11' (by omega) (by simp) (by simp) (by simp)).mono ?_
      rintro e w12' ⟨y, k_w12', rfl, y0, y1, q_w12', C_w12', o_w12'⟩
      have V_w12' := V_w11'.trans (o_w12'.below1 (Nat.le_refl _) V_w11'.size)
      have S_w12' := o_w12'.size
      clear o_w12' V_w11'
      go_wp2
      refine bodyPost_ret (results_tmp4 rfl _ _ _) rfl ?_
      exact ⟨_, _, _, _, rfl, V_w12'⟩

    · skip

      go_wp2_with fail
      refine (among_r w.heap.size _ [-1, 1000000000001] (-1) 1000000000001 _ C_w11' (by omega) (by simp) (by simp) (by simp)).mono ?_
      rintro e w13' ⟨y, k_w13', rfl, y0, y1, q_w13', C_w13', o_w13'⟩
      have V_w13' := V_w11'.trans (o_w13'.below1 (Nat.le_refl _) V_w11'.size)
      have S_w13' := o_w13'.size
      clear o_w13' V_w11'
      go_wp2
      refine bodyPost_ret (results_tmp4 rfl _ _ _) rfl ?_
      exact ⟨_, _, _, _, rfl, V_w13'⟩

end Go.Proofs.Ytnhphmhckbjnnaa
