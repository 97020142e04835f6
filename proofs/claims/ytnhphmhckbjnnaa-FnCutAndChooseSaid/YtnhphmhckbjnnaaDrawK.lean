/- Draws of checked sets and of sets that are caught. -/
import Derived.Test.YtnhphmhckbjnnaaDrawC
import Derived.Test.YtnhphmhckbjnnaaApp2
namespace Go.Proofs.Ytnhphmhckbjnnaa
open Go.RowKit

set_option maxHeartbeats 4000000 in
theorem DrawCheckedSet_any (a : Option Addr) (n c : Nat) (w : World) (h : Cod w w.heap.size a n c) :
    Calls Try.prog 18 #[.slice a n c] w (Num3 w) := by

  go_enter Try.func18, Try.ntmps18
  go_wp2_with fail
  have C_w1' : Cur (w.alloc (.cells #[.slice a n c, .int .i64 0, .int .u64 0] 49)) w.heap.size 0 := Cur.of_new h
  have V_w1' : Below w.heap.size w (w.alloc (.cells #[.slice a n c, .int .i64 0, .int .u64 0] 49)) := (Below.refl _ _).alloc (Nat.le_refl _) _
  have S_w1' : w.heap.size < (w.alloc (.cells #[.slice a n c, .int .i64 0, .int .u64 0] 49)).heap.size := by simp
  generalize (w.alloc (.cells #[.slice a n c, .int .i64 0, .int .u64 0] 49)) = w1' at *
  refine (copies_any w.heap.size _ _ C_w1' (by omega)).mono ?_
  rintro e w2' ⟨x, y, k_w2', rfl, x0, q_w2', C_w2', o_w2'⟩
  have V_w2' := V_w1'.trans (o_w2'.below1 (Nat.le_refl _) V_w1'.size)
  have S_w2' := o_w2'.size
  clear o_w2' V_w1'
  go_wp2_with fail
  refine (secret_any w.heap.size _ _ C_w2' (by omega)).mono ?_
  rintro e w3' ⟨z, k_w3', rfl, z0, z1, q_w3', C_w3', o_w3'⟩
  have V_w3' := V_w2'.trans (o_w3'.below1 (Nat.le_refl _) V_w2'.size)
  have S_w3' := o_w3'.size
  clear o_w3' V_w2'
  go_wp2
  go_ret3
  exact ⟨_, _, _, rfl, V_w3'⟩
/-- Two rows of the call's own beside the cursor. -/
def TwoR (w wr : World) (k : Nat) (a : Option Addr) (n c : Nat) (a' : Option Addr) (n' c' : Nat) : Prop :=
  (∃ l, Own wr (w.heap.size + 1) a n c l) ∧ (∃ l, Own wr (w.heap.size + 1) a' n' c' l) ∧ Disj (foot a c) (foot a' c') ∧ Cur wr w.heap.size k ∧ Below w.heap.size w wr
theorem TwoR.swap {w wr k a n c a' n' c'} (h : TwoR w wr k a n c a' n' c') : TwoR w wr k a' n' c' a n c := ⟨h.2.1, h.1, fun q h1 h2 => h.2.2.1 q h2 h1, h.2.2.2⟩
theorem TwoR.draw {w wr w2 k k2 a n c a' n' c'} (h : TwoR w wr k a n c a' n' c') (hc : Cur w2 w.heap.size k2) (ho : Only [w.heap.size] wr w2) : TwoR w w2 k2 a n c a' n' c' := by
  obtain ⟨⟨l, o1⟩, ⟨l', o2⟩, d, _, b⟩ := h
  exact ⟨⟨l, o1.cur ho (Nat.lt_succ_self _)⟩, ⟨l', o2.cur ho (Nat.lt_succ_self _)⟩, d, hc, b.trans (ho.below1 (Nat.le_refl _) b.size)⟩
theorem TwoR.app {w wr w5 : World} {k : Nat} {a : Option Addr} {n c : Nat} {a' : Option Addr} {n' c' : Nat} (h : TwoR w wr k a n c a' n' c') {o : Obj} {a5 : Option Addr} {n5 c5 : Nat} {l5 : List Int} (o5 : Own w5 (w.heap.size + 1) a5 n5 c5 l5)
    (g5 : (wr.alloc o).grownBy w5 (rowOf a c)) (m5 : Moved (wr.alloc o) a c a5 c5) : TwoR w w5 k a5 n5 c5 a' n' c' := by
  obtain ⟨⟨l, o1⟩, ⟨l', o2⟩, d, hc, b⟩ := h
  have GM : Only (foot a c) (wr.alloc o) w5 := Only.of_grown g5
  have F1 := o1.feet
  have F2 := o2.feet
  have hs : w.heap.size < wr.heap.size := hc.lt
  refine ⟨⟨l5, o5⟩, ⟨l', (o2.alloc o).only GM (fun q hq hq' => d q hq' hq)⟩, m5.disj d (fun q hq => by have := F2 q hq; simp; omega), (hc.alloc o).only GM (fun q hq => by have := (F1 q hq).1; omega), ?_⟩
  exact (b.alloc b.size o).trans (GM.below (by simp; omega) (fun q hq => by have := (F1 q hq).1; omega))
def CauP (w : World) (e : Ending) (w' : World) : Prop := ∃ (x : Int) (a : Option Addr) (n c : Nat) (l : List Int) (a' : Option Addr) (n' c' : Nat) (l' : List Int), e = .returned (.tuple #[.int .i64 x, .slice a n c, .slice a' n' c']) ∧ Ints w' a n c l ∧ Ints w' a' n' c' l' ∧ Below w.heap.size w w'
set_option maxHeartbeats 8000000 in
set_option maxRecDepth 100000 in
theorem DrawCaughtBy_any (a : Option Addr) (n c : Nat) (w : World) (h : Cod w w.heap.size a n c) :
    Calls Try.prog 15 #[.slice a n c] w (CauP w) := by

  go_enter Try.func15, Try.ntmps15
  go_wp2_with fail
  have C_w1' : Cur (w.alloc (.cells #[.slice a n c, .int .i64 0, .int .u64 0] 49)) w.heap.size 0 := Cur.of_new h
  have V_w1' : Below w.heap.size w (w.alloc (.cells #[.slice a n c, .int .i64 0, .int .u64 0] 49)) := (Below.refl _ _).alloc (Nat.le_refl _) _
  have S_w1' : w.heap.size < (w.alloc (.cells #[.slice a n c, .int .i64 0, .int .u64 0] 49)).heap.size := by simp
  generalize (w.alloc (.cells #[.slice a n c, .int .i64 0, .int .u64 0] 49)) = w1' at *
  refine (pick_any w.heap.size _ 10 _ C_w1' (by omega)).mono ?_
  rintro e w2' ⟨x, k_w2', rfl, x0, x1, x2, q_w2', C_w2', o_w2'⟩
  have V_w2' := V_w1'.trans (o_w2'.below1 (Nat.le_refl _) V_w1'.size)
  have S_w2' := o_w2'.size
  clear o_w2' V_w1'
  have x3 : x ≤ 10 := by omega
  clear x1
  obtain ⟨N, hN⟩ : ∃ N : Nat, 1 + x = N := ⟨(1 + x).toNat, by omega⟩
  have N1 : N ≤ 11 := by omega
  go_wp2
  clear hN
  go_loopw [9, 7, 8] (fun v x y wr => ∃ i : Nat, i ≤ N ∧ v = .int .i64 i ∧ ∃ (a1 : Option Addr) (n1 c1 : Nat) (a2 : Option Addr) (n2 c2 k1 : Nat), x = .slice a1 n1 c1 ∧ y = .slice a2 n2 c2 ∧ n1 ≤ i ∧ n2 ≤ i ∧ k1 ≤ 2 + 4 * i ∧ TwoR w wr k1 a1 n1 c1 a2 n2 c2) (fun v _ _ _ => N - (intOf v).toNat)
  case atStart => exact ⟨0, by omega, rfl, none, 0, 0, none, 0, 0, _, rfl, rfl, by omega, by omega, by omega, ⟨[], Own.nil0 _ _ _⟩, ⟨[], Own.nil0 _ _ _⟩, fun q hq => by simp [foot, rowOf] at hq, C_w2', V_w2'⟩
  case round =>
    obtain ⟨i, hi', rfl, a1, n1, c1, a2, n2, c2, k1, rfl, rfl, hn1, hn2, hk1, T⟩ := hrel
    have T0 := T
    clear T
    by_cases hlt : i < N
    · go_wp2_with fail
      refine (one_any _ k1 3 _ T0.2.2.2.1 (by omega)).mono ?_; rintro e wp ⟨bp, k2, rfl, qk2, cu, ou⟩
      have T1 := T0.draw cu ou
      clear T0 cu ou
      cases bp
      · go_wp2_with fail
        refine (one_any _ k2 3 _ T1.2.2.2.1 (by omega)).mono ?_; rintro e wr ⟨br, k3, rfl, qk3, cu, ou⟩
        have T2 := T1.draw cu ou
        clear T1 cu ou
        cases br
        · go_wp2
          go_roundw
          case rel => exact ⟨i + 1, by omega, by go_num, _, _, _, _, _, _, k3, rfl, rfl, by omega, by omega, by omega, T2⟩
          case measure => simp [intOf]; omega
        · obtain ⟨L2, O2⟩ := T2.swap.1
          have S2 := T2.2.2.2.1.lt
          go_wp2_with (at_builtin; refine wpList_appJ _ rfl _ _ rfl (w.heap.size + 1) a2 n2 c2 L2 rfl (O2.alloc _) _ 1 1 [(i : Int)] rfl (Ints.lit1 _ _ _) (by omega) (by simp; omega) ?_)
          intro b2 d2 w2a P2 _ G2 M2
          have T3 := (T2.swap.app P2 G2 M2).swap
          clear T2 O2 P2 G2 M2
          go_wp2
          go_roundw
          case rel => exact ⟨i + 1, by omega, by go_num, _, _, _, _, _, _, k3, rfl, rfl, by omega, by omega, by omega, T3⟩
          case measure => simp [intOf]; omega
      · obtain ⟨L1, O1⟩ := T1.1
        have S1 := T1.2.2.2.1.lt
        go_wp2_with (at_builtin; refine wpList_appJ _ rfl _ _ rfl (w.heap.size + 1) a1 n1 c1 L1 rfl (O1.alloc _) _ 1 1 [(i : Int)] rfl (Ints.lit1 _ _ _) (by omega) (by simp; omega) ?_)
        intro b1 d1 w1a P1 _ G1 M1
        have T2 := (T1.app P1 G1 M1)
        clear T1 O1 P1 G1 M1
        go_wp2_with fail
        refine (one_any _ k2 3 _ T2.2.2.2.1 (by omega)).mono ?_; rintro e wr ⟨br, k3, rfl, qk3, cu, ou⟩
        have T3 := T2.draw cu ou
        clear T2 cu ou
        cases br
        · go_wp2
          go_roundw
          case rel => exact ⟨i + 1, by omega, by go_num, _, _, _, _, _, _, k3, rfl, rfl, by omega, by omega, by omega, T3⟩
          case measure => simp [intOf]; omega
        · obtain ⟨L3, O3⟩ := T3.swap.1
          have S3 := T3.2.2.2.1.lt
          go_wp2_with (at_builtin; refine wpList_appJ _ rfl _ _ rfl (w.heap.size + 1) a2 n2 c2 L3 rfl (O3.alloc _) _ 1 1 [(i : Int)] rfl (Ints.lit1 _ _ _) (by omega) (by simp; omega) ?_)
          intro b2 d2 w3a P3 _ G3 M3
          have T4 := (T3.swap.app P3 G3 M3).swap
          clear T3 O3 P3 G3 M3
          go_wp2
          go_roundw
          case rel => exact ⟨i + 1, by omega, by go_num, _, _, _, _, _, _, k3, rfl, rfl, by omega, by omega, by omega, T4⟩
          case measure => simp [intOf]; omega
    · obtain rfl : i = N := by omega
      go_wp2_with fail
      refine (one_any _ k1 16 _ T0.2.2.2.1 (by omega)).mono ?_; rintro e wp ⟨bp, k2, rfl, qk2, cu, ou⟩
      have T1 := T0.draw cu ou
      clear T0 cu ou
      cases bp
      · go_wp2
        go_ret3
        obtain ⟨⟨l, o1⟩, ⟨l', o2⟩, _, _, b⟩ := T1
        exact ⟨_, _, _, _, l, _, _, _, l', rfl, o1.ints, o2.ints, b⟩
      · go_wp2_with fail
        refine (pick_any _ k2 _ _ T1.2.2.2.1 (by omega)).mono ?_; rintro e wq ⟨y, k3, rfl, y0, y1, y2, kq, cu, ou⟩
        clear y1
        have T2 := T1.draw cu ou
        clear T1 cu ou
        obtain ⟨L2, O2⟩ := T2.1
        have S2 := T2.2.2.2.1.lt
        go_wp2_with (at_builtin; refine wpList_appJ _ rfl _ _ rfl (w.heap.size + 1) a1 n1 c1 L2 rfl (O2.alloc _) _ 1 1 [y] rfl (Ints.lit1 _ _ _) (by omega) (by simp; omega) ?_)
        intro b1 d1 w2a P2 _ G2 M2
        have T3 := T2.app P2 G2 M2
        clear T2 O2 P2 G2 M2
        go_wp2
        go_ret3
        obtain ⟨⟨l, o1⟩, ⟨l', o2⟩, _, _, b⟩ := T3
        exact ⟨_, _, _, _, l, _, _, _, l', rfl, o1.ints, o2.ints, b⟩
end Go.Proofs.Ytnhphmhckbjnnaa
