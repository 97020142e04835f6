/- Lemmas and walks that the claim's proof rests on, part 3. -/
import Derived.Test.YtchmakepglaijaaGreatK1
import Derived.Test.YtchmakepglaijaaGreatK2
namespace Go.Proofs.YtchmakepglaijaaGreat
open Go.RowKit
theorem Own.of_blk2 {w : World} {g b : Nat} {x y : Int} (h : Blk w g 3 #[.int .i64 x, .int .i64 y]) (hb : b ≤ g) : Own w b (some ⟨g, 0, none⟩) 2 2 [x, y] :=
  ⟨rfl, Nat.le_refl _, by simp [maxLen], fun h => (by cases h), fun _ => ⟨g, _, rfl, hb, h, rfl, rfl⟩⟩
def RwQ (w : World) (g k : Nat) (e : Ending) (w' : World) : Prop := ∃ (a : Option Addr) (m c : Nat) (l : List Int) (k' : Nat), e = .returned (.slice a m c) ∧ Own w' w.heap.size a m c l ∧ k' ≤ k + 20 ∧ Cur w' g k' ∧ Only [g] w w'
set_option maxHeartbeats 4000000 in
theorem someKey_any (g k : Nat) (w : World) (h : Cur w g k) (hk : k ≤ 800000000000000) :
    Calls Tryz.prog 35 #[.pointer (some ⟨g, 0, none⟩)] w (NumP (-1) 1000000001 8 w g k) := by
  go_enter Tryz.func35, Tryz.ntmps35
  go_wp2_with fail
  refine (pick_any g _ 60000 _ h (by omega)).mono ?_
  rintro e w1' ⟨x, k_w1', rfl, x0, x1, x2, q_w1', C_w1', o_w1'⟩
  have V_w1' := (Only.refl [g] w).trans o_w1'
  have S_w1' := o_w1'.size
  clear o_w1' 
  clear x1
  go_wp2_with fail
  refine (pick_any g _ 60000 _ C_w1' (by omega)).mono ?_
  rintro e w2' ⟨y, k_w2', rfl, y0, y1, y2, q_w2', C_w2', o_w2'⟩
  have V_w2' := V_w1'.trans o_w2'
  have S_w2' := o_w2'.size
  clear o_w2' V_w1'
  clear y1
  go_wp2_with fail
  refine (pick_any g _ 60000 _ C_w2' (by omega)).mono ?_
  rintro e w3' ⟨z, k_w3', rfl, z0, z1, z2, q_w3', C_w3', o_w3'⟩
  have V_w3' := V_w2'.trans o_w3'
  have S_w3' := o_w3'.size
  clear o_w3' V_w2'
  clear z1
  go_wp2_with fail
  refine (among_r g _ [x, y, z, 0, 1000000000, 1000000001, -1] (-1) 1000000001 _ C_w3' (by omega) (by simp) (by simp) (by simp; omega)).mono ?_
  rintro e w4' ⟨v, k_w4', rfl, v0, v1, q_w4', C_w4', o_w4'⟩
  have V_w4' := V_w3'.trans o_w4'
  have S_w4' := o_w4'.size
  clear o_w4' V_w3'
  go_wp2
  go_ret
  exact ⟨_, _, rfl, v0, v1, by omega, C_w4', V_w4'⟩
set_option maxHeartbeats 4000000 in
theorem pair_any (g k : Nat) (p : Int) (w : World) (h : Cur w g k) (hk : k ≤ 600000000000000) (hp : -1000000 ≤ p ∧ p ≤ 1000000) :
    Calls Tryz.prog 46 #[.pointer (some ⟨g, 0, none⟩), .int .i64 p] w (RwQ w g k) := by
  have hg := h.lt
  go_enter Tryz.func46, Tryz.ntmps46
  go_wp2_with fail
  refine (elements_any g _ p 2 _ h (by omega) hp (by omega)).mono ?_
  rintro e w1' ⟨xa, xn, xc, x, k_w1', rfl, hm, ox, lr, q_w1', C_w1', o_w1'⟩
  have V_w1' := (Only.refl [g] w).trans o_w1'
  have S_w1' := o_w1'.size
  clear o_w1' 
  have hxn : xn ≤ 2 := by omega
  clear hm lr
  go_wp2_with fail
  refine (one_any g _ _ _ C_w1' (by omega)).mono ?_
  rintro e w2' ⟨b, k_w2', rfl, q_w2', C_w2', o_w2'⟩
  have V_w2' := V_w1'.trans o_w2'
  replace ox := ox.cur o_w2' (by omega)
  have S_w2' := o_w2'.size
  clear o_w2' V_w1'
  cases b
  · go_wp2
    go_ret
    exact ⟨_, _, _, _, _, rfl, ox, by omega, C_w2', V_w2'⟩
  · go_wp2_with (at_builtin; refine wpList_appI _ rfl _ _ rfl w.heap.size xa xn xc x rfl (ox.alloc _) _ 1 1 [0] rfl (Ints.lit1 _ _ _) (by omega) (by simp; omega) ?_)
    intro a5 c5 w9 o5 u5 g5
    have V9 := (V_w2'.alloc (.cells #[.int .i64 0] 3)).thn (Only.of_grown g5) (fun q hq => Or.inl (ox.feet q hq).1)
    have C9 := (C_w2'.alloc (.cells #[.int .i64 0] 3)).only (Only.of_grown g5) (fun q hq => by have := (ox.feet q hq).1; omega)
    clear u5 g5
    go_wp2
    go_ret
    exact ⟨_, _, _, _, _, rfl, o5, by omega, C9, V9⟩
set_option maxHeartbeats 4000000 in
theorem bitPair_any (g k : Nat) (w : World) (h : Cur w g k) (hk : k ≤ 600000000000000) :
    Calls Tryz.prog 61 #[.pointer (some ⟨g, 0, none⟩)] w (RwQ w g k) := by
  have hg := h.lt
  go_enter Tryz.func61, Tryz.ntmps61
  go_wp2_with fail
  refine (pick_any g _ 2 _ h (by omega)).mono ?_
  rintro e w1' ⟨x, k_w1', rfl, x0, x1, x2, q_w1', C_w1', o_w1'⟩
  have V_w1' := (Only.refl [g] w).trans o_w1'
  have S_w1' := o_w1'.size
  clear o_w1' 
  clear x1
  go_wp2_with fail
  refine (pick_any g _ 2 _ C_w1' (by omega)).mono ?_
  rintro e w2' ⟨y, k_w2', rfl, y0, y1, y2, q_w2', C_w2', o_w2'⟩
  have V_w2' := V_w1'.trans o_w2'
  have S_w2' := o_w2'.size
  clear o_w2' V_w1'
  clear y1
  go_upto_region 2 with fail
  refine Exists.elim (Blk.new_ w2' (b := w2'.heap.size) rfl 3 #[.int .i64 x, .int .i64 y]) (fun w3' q => ?_)
  rw [q.1]; have B_b := q.2.1; have s_w3' := q.2.2.1; have u_w3' := q.2.2.2; clear q
  have C_w3' := C_w2'.below u_w3'
  have S_w3' : w2'.heap.size + 1 ≤ w3'.heap.size := Nat.le_of_eq s_w3'.symm
  have V_w3' := V_w2'.trans (Only.of_below u_w3')
  clear u_w3' s_w3' V_w2'
  go_wp2_with fail
  refine (pick_any g _ 24 _ C_w3' (by omega)).mono ?_
  rintro e w4' ⟨s, k_w4', rfl, s0, s1, s2, q_w4', C_w4', o_w4'⟩
  have V_w4' := V_w3'.trans o_w4'
  replace B_b := B_b.only o_w4' (by simp; omega)
  have S_w4' := o_w4'.size
  clear o_w4' V_w3'
  clear s1
  by_cases h0 : s = 0
  · subst h0
    go_wp2_with fail
    refine (among_r g _ [-1, 2] (-1) 2 _ C_w4' (by omega) (by decide) (by decide) (by decide)).mono ?_
    rintro e w5' ⟨v, k_w5', rfl, v0, v1, q_w5', C_w5', o_w5'⟩
    have V_w5' := V_w4'.trans o_w5'
    replace B_b := B_b.only o_w5' (by simp; omega)
    have S_w5' := o_w5'.size
    clear o_w5' V_w4'
    have e_b := B_b.all2
    have f_b := B_b.frz2
    go_upto_region 7 with fail
    clear e_b f_b
    have g_1 : Only [w2'.heap.size] w5' (w5'.setCell ⟨w2'.heap.size, 0, none⟩ (.int .i64 v)) := (Only.refl _ _).setCell _ _ (by simp)
    replace B_b := B_b.set_ 0 (.int .i64 v)
    generalize w5'.setCell ⟨w2'.heap.size, 0, none⟩ (.int .i64 v) = w6' at *
    have G := g_1
    clear g_1
    simp only [List.setIfInBounds_toArray, List.set_cons_zero] at B_b
    have V_w6' : Only [g] w w6' := (V_w5').thn G (fun q hq => Or.inl (by have := (V_w5').size; simp at hq; omega))
    have C_w6'_0 : Cur w6' g _ := C_w5'.only G (fun q hq => by simp at hq; omega)
    have sG0 := G.size
    clear G
    clear V_w5'
    have S_w6' : w5'.heap.size + 0 ≤ w6'.heap.size := by omega
    clear sG0
    go_wp2
    go_ret
    exact ⟨_, _, _, _, _, rfl, Own.of_blk2 B_b (by omega), by omega, C_w6'_0, V_w6'⟩
  · have b0 : ((s == 0) : Bool) = false := by simpa using h0
    have ox : Own w4' w.heap.size (some ⟨w2'.heap.size, 0, none⟩) 2 2 [x, y] := Own.of_blk2 B_b (by omega)
    clear B_b
    by_cases h1 : s = 1
    · subst h1
      go_wp2_with (at_builtin; refine wpList_appI _ rfl _ _ rfl w.heap.size _ 2 2 [x, y] rfl (ox.alloc _) _ 1 1 [0] rfl (Ints.lit1 _ _ _) (by omega) (by simp; omega) ?_)
      intro a5 c5 w9 o5 u5 g5
      have V9 := (V_w4'.alloc (.cells #[.int .i64 0] 3)).thn (Only.of_grown g5) (fun q hq => Or.inl (ox.feet q hq).1)
      have C9 := (C_w4'.alloc (.cells #[.int .i64 0] 3)).only (Only.of_grown g5) (fun q hq => by have := (ox.feet q hq).1; omega)
      clear u5 g5
      go_wp2
      go_ret
      exact ⟨_, _, _, _, _, rfl, o5, by omega, C9, V9⟩
    · have b1 : ((s == 1) : Bool) = false := by simpa using h1
      go_wp2
      go_ret
      exact ⟨_, _, _, _, _, rfl, ox, by omega, C_w4', V_w4'⟩
def TwoG (g : Nat) (w wr : World) (k : Nat) (a : Option Addr) (n c : Nat) (a' : Option Addr) (n' c' : Nat) : Prop :=
  (∃ l, Own wr w.heap.size a n c l) ∧ (∃ l, Own wr w.heap.size a' n' c' l) ∧ Disj (foot a c) (foot a' c') ∧ Cur wr g k ∧ Only [g] w wr
theorem TwoG.swap {g w wr k a n c a' n' c'} (h : TwoG g w wr k a n c a' n' c') : TwoG g w wr k a' n' c' a n c := ⟨h.2.1, h.1, fun q h1 h2 => h.2.2.1 q h2 h1, h.2.2.2⟩
theorem TwoG.draw {g w wr w2 k k2 a n c a' n' c'} (h : TwoG g w wr k a n c a' n' c') (hg : g < w.heap.size) (hc : Cur w2 g k2) (ho : Only [g] wr w2) : TwoG g w w2 k2 a n c a' n' c' := by
  obtain ⟨⟨l, o1⟩, ⟨l', o2⟩, d, _, b⟩ := h
  exact ⟨⟨l, o1.cur ho hg⟩, ⟨l', o2.cur ho hg⟩, d, hc, b.trans ho⟩
theorem TwoG.app {g : Nat} {w wr w5 : World} {k : Nat} {a : Option Addr} {n c : Nat} {a' : Option Addr} {n' c' : Nat} (h : TwoG g w wr k a n c a' n' c') (hg : g < w.heap.size) {o : Obj} {a5 : Option Addr} {n5 c5 : Nat} {l5 : List Int} (o5 : Own w5 w.heap.size a5 n5 c5 l5)
    (g5 : (wr.alloc o).grownBy w5 (rowOf a c)) (m5 : Moved (wr.alloc o) a c a5 c5) : TwoG g w w5 k a5 n5 c5 a' n' c' := by
  obtain ⟨⟨l, o1⟩, ⟨l', o2⟩, d, hc, b⟩ := h
  have GM : Only (foot a c) (wr.alloc o) w5 := Only.of_grown g5
  have F1 := o1.feet
  have F2 := o2.feet
  refine ⟨⟨l5, o5⟩, ⟨l', (o2.alloc o).only GM (fun q hq hq' => d q hq' hq)⟩, m5.disj d (fun q hq => by have := F2 q hq; simp; omega), (hc.alloc o).only GM (fun q hq => by have := (F1 q hq).1; omega), ?_⟩
  exact (b.alloc o).thn GM (fun q hq => Or.inl (F1 q hq).1)
def slen (v : Value) : Nat := match v with
  | .slice _ n _ => n
  | _ => 0
def BsQ (w : World) (g k : Nat) (e : Ending) (w' : World) : Prop := ∃ (a : Option Addr) (n c : Nat) (a' : Option Addr) (n' c' : Nat) (k' : Nat), e = .returned (.tuple #[.slice a n c, .slice a' n' c']) ∧ k' ≤ k + 400 ∧ TwoG g w w' k' a n c a' n' c'
set_option maxHeartbeats 8000000 in
set_option maxRecDepth 100000 in
theorem bitShares_any (g k : Nat) (w : World) (h : Cur w g k) (hk : k ≤ 600000000000000) :
    Calls Tryz.prog 33 #[.pointer (some ⟨g, 0, none⟩)] w (BsQ w g k) := by
  have hg := h.lt
  go_enter Tryz.func33, Tryz.ntmps33
  go_wp2_with fail
  refine (pick_any g _ 9 _ h (by omega)).mono ?_
  rintro e w1' ⟨x, k_w1', rfl, x0, x1, x2, q_w1', C_w1', o_w1'⟩
  have V_w1' := (Only.refl [g] w).trans o_w1'
  have S_w1' := o_w1'.size
  clear o_w1' 
  have x3 : x ≤ 8 := by omega
  clear x1 x2
  have T0 : TwoG g w w1' _ none 0 0 none 0 0 := ⟨⟨[], Own.nil0 _ _ _⟩, ⟨[], Own.nil0 _ _ _⟩, fun q hq => by simp [foot, rowOf] at hq, C_w1', V_w1'⟩
  clear C_w1' V_w1'
  go_wp2
  go_loopw [6, 4, 5] (fun v x' y' wr => ∃ i : Nat, (i : Int) ≤ x ∧ v = .int .i64 (x - i) ∧ ∃ (a1 : Option Addr) (c1 : Nat) (a2 : Option Addr) (c2 k1 : Nat), x' = .slice a1 i c1 ∧ y' = .slice a2 i c2 ∧ k1 ≤ k + 2 + 4 * i ∧ TwoG g w wr k1 a1 i c1 a2 i c2) (fun v _ _ _ => (intOf v).toNat)
  case atStart => exact ⟨0, by omega, by simp, none, 0, none, 0, _, rfl, rfl, by omega, T0⟩
  case round =>
    clear T0
    obtain ⟨i, hi', rfl, a1, c1, a2, c2, k1, rfl, rfl, hk1, T0⟩ := hrel
    by_cases hlt : x - (i : Int) > 0
    · obtain ⟨L1, O1⟩ := T0.1
      go_wp2_with fail
      refine (pick_any g k1 2 _ T0.2.2.2.1 (by omega)).mono ?_; rintro e wp ⟨u, k2, rfl, u0, u1, u2, qk2, cu, ou⟩
      clear u0 u1 u2 L1 O1
      have T1 := T0.draw hg cu ou
      clear T0 cu ou
      obtain ⟨L1, O1⟩ := T1.1
      have S1 := T1.2.2.2.2.size
      go_wp2_with (at_builtin; refine wpList_appJ _ rfl _ _ rfl w.heap.size a1 i c1 L1 rfl (O1.alloc _) _ 1 1 [u] rfl (Ints.lit1 _ _ _) (by omega) (by simp; omega) ?_)
      intro b1 d1 w1a P1 _ G1 M1
      have T2 := T1.app hg P1 G1 M1
      clear T1 O1 P1 G1 M1
      go_wp2_with fail
      refine (pick_any g k2 2 _ T2.2.2.2.1 (by omega)).mono ?_; rintro e wq ⟨v, k3, rfl, v0, v1, v2, qk3, cu, ou⟩
      clear v0 v1 v2
      have T3 := T2.draw hg cu ou
      clear T2 cu ou
      obtain ⟨L2, O2⟩ := T3.2.1
      have S3 := T3.2.2.2.2.size
      go_wp2_with (at_builtin; refine wpList_appJ _ rfl _ _ rfl w.heap.size a2 i c2 L2 rfl (O2.alloc _) _ 1 1 [v] rfl (Ints.lit1 _ _ _) (by omega) (by simp; omega) ?_)
      intro b2 d2 w2a P2 _ G2 M2
      have T4 := (T3.swap.app hg P2 G2 M2).swap
      clear T3 O2 P2 G2 M2
      go_wp2
      go_roundw
      case rel => exact ⟨i + 1, by omega, by congr 1; omega, _, _, _, _, k3, rfl, rfl, by omega, T4⟩
      case measure => simp [intOf]; omega
    · obtain ⟨n, hn⟩ : ∃ n, n = i := ⟨_, rfl⟩
      have hi8 : i ≤ 8 := by omega
      go_wp2_with fail
      refine (pick_any g k1 20 _ T0.2.2.2.1 (by omega)).mono ?_; rintro e wp ⟨s, k2, rfl, s0, s1, s2, qk2, cu, ou⟩
      clear s1 hn hlt
      have T1 := T0.draw hg cu ou
      clear T0 cu ou
      by_cases h0 : s = 0
      · subst h0
        obtain ⟨L1, O1⟩ := T1.1
        have S1 := T1.2.2.2.2.size
        go_wp2_with (at_builtin; refine wpList_appJ _ rfl _ _ rfl w.heap.size a1 i c1 L1 rfl (O1.alloc _) _ 1 1 [1] rfl (Ints.lit1 _ _ _) (by omega) (by simp; omega) ?_)
        intro b1 d1 w1a P1 _ G1 M1
        have T2 := T1.app hg P1 G1 M1
        clear T1 O1 P1 G1 M1
        go_wp2
        go_ret2
        exact ⟨_, _, _, _, _, _, _, rfl, by omega, T2⟩
      · have b0 : ((s == 0) : Bool) = false := by simpa using h0
        by_cases h1 : s = 1
        · subst h1
          clear h0 b0
          have b0 : ((1 : Int) == 0) = false := rfl
          go_wp2
          clear b0
          go_loopw [4] (fun x' wr => ∃ (a1 : Option Addr) (n1 c1 k3 : Nat), x' = .slice a1 n1 c1 ∧ n1 ≤ 17 ∧ k3 ≤ k + 60 + 2 * n1 ∧ TwoG g w wr k3 a1 n1 c1 a2 i c2) (fun x' _ => 17 - slen x')
          case atStart => exact ⟨_, _, _, _, rfl, by omega, by omega, T1⟩
          case round =>
            clear T1
            obtain ⟨b1, n1, d1, k3, rfl, hn1, hk3, T1⟩ := hrel
            go_wp2_with fail
            refine (pick_any g k3 2 _ T1.2.2.2.1 (by omega)).mono ?_; rintro e wq ⟨v, k4, rfl, v0, v1, v2, qk4, cu, ou⟩
            have v3 : v ≤ 1 := by omega
            clear v1 v2
            have T2 := T1.draw hg cu ou
            clear T1 cu ou
            by_cases hlt : (n1 : Int) < 16 + v
            · obtain ⟨L1, O1⟩ := T2.1
              have S2 := T2.2.2.2.2.size
              go_wp2_with (at_builtin; refine wpList_appJ _ rfl _ _ rfl w.heap.size b1 n1 d1 L1 rfl (O1.alloc _) _ 1 1 [1] rfl (Ints.lit1 _ _ _) (by omega) (by simp; omega) ?_)
              intro b2 d2 w2a P2 _ G2 M2
              have T3 := T2.app hg P2 G2 M2
              clear T2 O1 P2 G2 M2
              go_wp2
              go_roundw
              case rel => exact ⟨_, _, _, _, rfl, by omega, by omega, T3⟩
              case measure => simp [slen]; omega
            · go_wp2
              clear hlt
              go_loopw [5] (fun y' wr => ∃ (a2 : Option Addr) (n2 c2 : Nat), y' = .slice a2 n2 c2 ∧ n2 ≤ 17 ∧ TwoG g w wr k4 b1 n1 d1 a2 n2 c2) (fun y' _ => 17 - slen y')
              case atStart => exact ⟨_, _, _, rfl, by omega, T2⟩
              case round =>
                clear T2
                obtain ⟨b2, n2, d2, rfl, hn2, T2⟩ := hrel
                by_cases hlt : (n2 : Int) < (n1 : Int)
                · obtain ⟨L2, O2⟩ := T2.2.1
                  have S2 := T2.2.2.2.2.size
                  go_wp2_with (at_builtin; refine wpList_appJ _ rfl _ _ rfl w.heap.size b2 n2 d2 L2 rfl (O2.alloc _) _ 1 1 [0] rfl (Ints.lit1 _ _ _) (by omega) (by simp; omega) ?_)
                  intro b3 d3 w3a P3 _ G3 M3
                  have T3 := (T2.swap.app hg P3 G3 M3).swap
                  clear T2 O2 P3 G3 M3
                  go_wp2
                  go_roundw
                  case rel => exact ⟨_, _, _, rfl, by omega, T3⟩
                  case measure => simp [slen]; omega
                · go_wp2
                  go_ret2
                  exact ⟨_, _, _, _, _, _, _, rfl, by omega, T2⟩
        · have b1 : ((s == 1) : Bool) = false := by simpa using h1
          go_wp2
          go_ret2
          exact ⟨_, _, _, _, _, _, _, rfl, by omega, T1⟩
def IntR3 (w : World) (e : Ending) (w' : World) : Prop := ∃ (p key : Int) (a : Option Addr) (n c : Nat) (l : List Int) (a' : Option Addr) (n' c' : Nat) (l' : List Int) (b : Option Addr) (m d : Nat) (x : List Int), e = .returned (.tuple #[.int .i64 p, .int .i64 key, .slice a n c, .slice a' n' c', .slice b m d]) ∧ Ints w' a n c l ∧ Ints w' a' n' c' l' ∧ Ints w' b m d x ∧ Below w.heap.size w w'
set_option maxHeartbeats 4000000 in
theorem DrawOpenedCounts_any (a : Option Addr) (n c : Nat) (w : World) (h : Cod w w.heap.size a n c) :
    Calls Tryz.prog 28 #[.slice a n c] w (Num2 w) := by
  go_enter Tryz.func28, Tryz.ntmps28
  go_wp2_with fail
  have C_w1' : Cur (w.alloc (.cells #[.slice a n c, .int .i64 0, .int .u64 0] 60)) w.heap.size 0 := Cur.of_new h
  have V_w1' : Below w.heap.size w (w.alloc (.cells #[.slice a n c, .int .i64 0, .int .u64 0] 60)) := (Below.refl _ _).alloc (Nat.le_refl _) _
  have S_w1' : w.heap.size < (w.alloc (.cells #[.slice a n c, .int .i64 0, .int .u64 0] 60)).heap.size := by simp
  generalize (w.alloc (.cells #[.slice a n c, .int .i64 0, .int .u64 0] 60)) = w1' at *
  refine (anyPrime_any w.heap.size _ _ C_w1' (by omega)).mono ?_
  rintro e w2' ⟨p, k_w2', rfl, p0, p1, q_w2', C_w2', o_w2'⟩
  have V_w2' := V_w1'.trans (o_w2'.below1 (Nat.le_refl _) V_w1'.size)
  have S_w2' := o_w2'.size
  clear o_w2' V_w1'
  go_wp2_with fail
  refine (pick_any w.heap.size _ 3 _ C_w2' (by omega)).mono ?_
  rintro e w3' ⟨x, k_w3', rfl, x0, x1, x2, q_w3', C_w3', o_w3'⟩
  have V_w3' := V_w2'.trans (o_w3'.below1 (Nat.le_refl _) V_w2'.size)
  have S_w3' := o_w3'.size
  clear o_w3' V_w2'
  clear x1
  go_wp2_with fail
  refine (pick_any w.heap.size _ 16 _ C_w3' (by omega)).mono ?_
  rintro e w4' ⟨y, k_w4', rfl, y0, y1, y2, q_w4', C_w4', o_w4'⟩
  have V_w4' := V_w3'.trans (o_w4'.below1 (Nat.le_refl _) V_w3'.size)
  have S_w4' := o_w4'.size
  clear o_w4' V_w3'
  clear y1
  go_wp2
  go_ret2
  exact ⟨_, _, rfl, V_w4'⟩
set_option maxHeartbeats 4000000 in
theorem DrawWidthFor_any (a : Option Addr) (n c : Nat) (w : World) (h : Cod w w.heap.size a n c) :
    Calls Tryz.prog 74 #[.slice a n c] w (Num1 w) := by
  go_enter Tryz.func74, Tryz.ntmps74
  go_wp2_with fail
  have C_w1' : Cur (w.alloc (.cells #[.slice a n c, .int .i64 0, .int .u64 0] 60)) w.heap.size 0 := Cur.of_new h
  have V_w1' : Below w.heap.size w (w.alloc (.cells #[.slice a n c, .int .i64 0, .int .u64 0] 60)) := (Below.refl _ _).alloc (Nat.le_refl _) _
  have S_w1' : w.heap.size < (w.alloc (.cells #[.slice a n c, .int .i64 0, .int .u64 0] 60)).heap.size := by simp
  generalize (w.alloc (.cells #[.slice a n c, .int .i64 0, .int .u64 0] 60)) = w1' at *
  refine (anyPrime_any w.heap.size _ _ C_w1' (by omega)).mono ?_
  rintro e w2' ⟨p, k_w2', rfl, p0, p1, q_w2', C_w2', o_w2'⟩
  have V_w2' := V_w1'.trans (o_w2'.below1 (Nat.le_refl _) V_w1'.size)
  have S_w2' := o_w2'.size
  clear o_w2' V_w1'
  go_wp2
  go_ret
  exact ⟨_, rfl, V_w2'⟩
set_option maxHeartbeats 4000000 in
theorem DrawReduceCircuit_any (a : Option Addr) (n c : Nat) (w : World) (h : Cod w w.heap.size a n c) :
    Calls Tryz.prog 25 #[.slice a n c] w (Num1 w) := by
  go_enter Tryz.func25, Tryz.ntmps25
  go_wp2_with fail
  refine (DrawWidthFor_any _ _ _ _ h).mono ?_; rintro e w1 ⟨x, rfl, u⟩
  go_wp2
  go_ret
  exact ⟨_, rfl, u⟩
set_option maxHeartbeats 4000000 in
theorem DrawChooseShared_any (a : Option Addr) (n c : Nat) (w : World) (h : Cod w w.heap.size a n c) :
    Calls Tryz.prog 19 #[.slice a n c] w (IntR3 w) := by
  go_enter Tryz.func19, Tryz.ntmps19
  go_wp2_with fail
  have C_w1' : Cur (w.alloc (.cells #[.slice a n c, .int .i64 0, .int .u64 0] 60)) w.heap.size 0 := Cur.of_new h
  have V_w1' : Below w.heap.size w (w.alloc (.cells #[.slice a n c, .int .i64 0, .int .u64 0] 60)) := (Below.refl _ _).alloc (Nat.le_refl _) _
  have S_w1' : w.heap.size < (w.alloc (.cells #[.slice a n c, .int .i64 0, .int .u64 0] 60)).heap.size := by simp
  generalize (w.alloc (.cells #[.slice a n c, .int .i64 0, .int .u64 0] 60)) = w1' at *
  refine (anyPrime_any w.heap.size _ _ C_w1' (by omega)).mono ?_
  rintro e w2' ⟨p, k_w2', rfl, p0, p1, q_w2', C_w2', o_w2'⟩
  have V_w2' := V_w1'.trans (o_w2'.below1 (Nat.le_refl _) V_w1'.size)
  have S_w2' := o_w2'.size
  clear o_w2' V_w1'
  go_wp2_with fail
  refine (someKey_any w.heap.size _ _ C_w2' (by omega)).mono ?_
  rintro e w3' ⟨key, k_w3', rfl, y0, y1, q_w3', C_w3', o_w3'⟩
  have V_w3' := V_w2'.trans (o_w3'.below1 (Nat.le_refl _) V_w2'.size)
  have S_w3' := o_w3'.size
  clear o_w3' V_w2'
  go_wp2_with fail
  refine (bitPair_any w.heap.size _ _ C_w3' (by omega)).mono ?_
  rintro e w4' ⟨ba, bn, bc, b, k_w4', rfl, ob, q_w4', C_w4', o_w4'⟩
  have V_w4' := V_w3'.trans (o_w4'.below1 (Nat.le_refl _) V_w3'.size)
  have S_w4' := o_w4'.size
  clear o_w4' V_w3'
  go_wp2_with fail
  refine (pair_any w.heap.size _ p _ C_w4' (by omega) (by omega)).mono ?_
  rintro e w5' ⟨xa, xn, xc, x, k_w5', rfl, ox, q_w5', C_w5', o_w5'⟩
  have V_w5' := V_w4'.trans (o_w5'.below1 (Nat.le_refl _) V_w4'.size)
  replace ob := ob.cur o_w5' (by omega)
  have S_w5' := o_w5'.size
  clear o_w5' V_w4'
  go_wp2_with fail
  refine (pair_any w.heap.size _ p _ C_w5' (by omega) (by omega)).mono ?_
  rintro e w6' ⟨ya, yn, yc, y, k_w6', rfl, oy, q_w6', C_w6', o_w6'⟩
  have V_w6' := V_w5'.trans (o_w6'.below1 (Nat.le_refl _) V_w5'.size)
  replace ob := ob.cur o_w6' (by omega)
  replace ox := ox.cur o_w6' (by omega)
  have S_w6' := o_w6'.size
  clear o_w6' V_w5'
  go_wp2
  refine bodyPost_ret (v := .tuple #[.int .i64 p, .int .i64 key, .slice ba bn bc, .slice xa xn xc, .slice ya yn yc]) (by simp [results, Tryz.results19, go_sem]) rfl ?_
  exact ⟨_, _, _, _, _, _, _, _, _, _, _, _, _, _, rfl, ob.ints, ox.ints, oy.ints, V_w6'⟩
set_option maxHeartbeats 4000000 in
theorem DrawMixedSum_any (a : Option Addr) (n c : Nat) (w : World) (h : Cod w w.heap.size a n c) :
    Calls Tryz.prog 22 #[.slice a n c] w (IntR3 w) := by
  go_enter Tryz.func22, Tryz.ntmps22
  go_wp2_with fail
  have C_w1' : Cur (w.alloc (.cells #[.slice a n c, .int .i64 0, .int .u64 0] 60)) w.heap.size 0 := Cur.of_new h
  have V_w1' : Below w.heap.size w (w.alloc (.cells #[.slice a n c, .int .i64 0, .int .u64 0] 60)) := (Below.refl _ _).alloc (Nat.le_refl _) _
  have S_w1' : w.heap.size < (w.alloc (.cells #[.slice a n c, .int .i64 0, .int .u64 0] 60)).heap.size := by simp
  generalize (w.alloc (.cells #[.slice a n c, .int .i64 0, .int .u64 0] 60)) = w1' at *
  refine (anyPrime_any w.heap.size _ _ C_w1' (by omega)).mono ?_
  rintro e w2' ⟨p, k_w2', rfl, p0, p1, q_w2', C_w2', o_w2'⟩
  have V_w2' := V_w1'.trans (o_w2'.below1 (Nat.le_refl _) V_w1'.size)
  have S_w2' := o_w2'.size
  clear o_w2' V_w1'
  go_wp2_with fail
  refine (bitShares_any w.heap.size _ _ C_w2' (by omega)).mono ?_
  rintro e w2 ⟨ua, un, uc, va, vn, vc, k2, rfl, hk2, ⟨⟨u, ou⟩, ⟨v, ov⟩, _, c2, o2⟩⟩
  have V2 := V_w2'.trans (o2.below1 (Nat.le_refl _) V_w2'.size)
  have S2 := o2.size
  clear o2
  go_wp2_with fail
  refine (someKey_any w.heap.size _ _ c2 (by omega)).mono ?_
  rintro e w3 ⟨key, k3, rfl, y0, y1, q3, c3, o3⟩
  have ou3 := ou.cur o3 (by omega)
  have ov3 := ov.cur o3 (by omega)
  have V3 := V2.trans (o3.below1 (Nat.le_refl _) V2.size)
  have S3 := o3.size
  clear o3 ou ov V2
  go_wp2_with fail
  refine (pair_any w.heap.size _ p _ c3 (by omega) (by omega)).mono ?_
  rintro e w4 ⟨ba, bn, bc, b, k4, rfl, ob, q4, c4, o4⟩
  have ou4 := ou3.cur o4 (by omega)
  have ov4 := ov3.cur o4 (by omega)
  have V4 := V3.trans (o4.below1 (Nat.le_refl _) V3.size)
  clear o4 ou3 ov3 V3
  go_wp2
  refine bodyPost_ret (v := .tuple #[.int .i64 p, .int .i64 key, .slice ua un uc, .slice va vn vc, .slice ba bn bc]) (by simp [results, Tryz.results22, go_sem]) rfl ?_
  exact ⟨_, _, _, _, _, _, _, _, _, _, _, _, _, _, rfl, ou4.ints, ov4.ints, ob.ints, V4⟩
end Go.Proofs.YtchmakepglaijaaGreat
namespace Go.Proofs.YtchmakepglaijaaGreat
open Go.RowKit
set_option maxHeartbeats 1000000 in
theorem areAll_1_any (x : Int) (p : Addr) (f : Nat) (cap : Array Value) (b : Bool) (w : World) (hp : w.cell? p = some (.func (.func f) #[] cap))
    (hf : ∀ args W, (callFunc f args).run Tryz.prog W = .ok (.enter f args) W)
    (hq : ∀ m, Calls Tryz.prog f (#[.int .i64 x] ++ cap) (w.drewN m) fun e w' => e = .returned (.bool b) ∧ ∃ m', w' = (w.drewN m).drewN m') :
    Calls Tryz.prog 85 #[.int .i64 x, .pointer (some p)] w fun e w' => e = .returned (.bool (!b)) ∧ ∃ m, w' = w.drewN m := by
  have HQ := Lib.hid (hq 0)
  clear hq
  go_enter Tryz.func85, Tryz.ntmps85
  go_wp2_with (refine HQ.out.mono ?_; rintro e w' ⟨rfl, m', rfl⟩)
  go_ret
  exact ⟨rfl, _, rfl⟩
theorem areAll_1_enters (args : Array Value) (W : World) : (callFunc 85 args).run Tryz.prog W = .ok (.enter 85 args) W :=
  enters Tryz.func85 (by kernel_rfl) (by kernel_rfl) args W
set_option maxHeartbeats 1000000 in
theorem areAll_any (a : Option Addr) (n c : Nat) (l : List Int) (f : Nat) (cap : Array Value) (q : Int → Bool) (w : World) (h : Ints w a n c l)
    (hf : ∀ args W, (callFunc f args).run Tryz.prog W = .ok (.enter f args) W)
    (hq : ∀ W x, Below w.heap.size w W → x ∈ l → Calls Tryz.prog f (#[.int .i64 x] ++ cap) W fun e w' => e = .returned (.bool (q x)) ∧ ∃ m, w' = W.drewN m) :
    Calls Tryz.prog 38 #[.slice a n c, .func (.func f) #[] cap] w fun e w' => e = .returned (.bool (l.all q)) ∧ Below w.heap.size w w' := by
  have hall : (!l.any fun x => !q x) = l.all q := by rw [List.all_eq_not_any_not]
  have HALL := Lib.hid hall
  clear hall
  have hbel : Below w.heap.size w (w.alloc (.cells #[.func (.func f) #[] cap] 64)) := (Below.refl _ _).alloc (Nat.le_refl _) _
  have hc : (w.alloc (.cells #[.func (.func f) #[] cap] 64)).cell? ⟨w.heap.size, 0, none⟩ = some (.func (.func f) #[] cap) := cell_new _ _ _
  have hcf := ContainsFunc_any a n c l 85 #[.pointer (some ⟨w.heap.size, 0, none⟩)] (fun x => !q x) (w.alloc (.cells #[.func (.func f) #[] cap] 64)) (h.alloc _) areAll_1_enters
    (fun W x hb hx => areAll_1_any x _ f cap (q x) W (by rw [hb.cell (by simp)]; exact hc) hf (fun m => hq _ x (hbel.trans ((hb.mono (by simp)).trans ((below_of_drewN m).mono (by have := hb.size; simp at this; omega)))) hx))
  have HCF := Lib.hid hcf
  clear hcf hq hf
  go_enter Tryz.func38, Tryz.ntmps38
  go_wp2_with (go_at_call 84; refine HCF.out.mono ?_; rintro e w' ⟨rfl, m, rfl⟩)
  go_ret
  exact ⟨ret_bool HALL.out, below_drewN hbel _⟩
def bitB (x : Int) : Bool := decide (0 ≤ x ∧ x ≤ 1)
set_option maxHeartbeats 400000 in
theorem isBit_any (x : Int) (w : World) : Calls Tryz.prog 39 #[.int .i64 x] w fun e w' => e = .returned (.bool (bitB x)) ∧ ∃ m, w' = w.drewN m := by
  by_cases h0 : x = 0
  · subst h0
    go_enter Tryz.func39, Tryz.ntmps39
    go_wp2
    go_ret
    exact ⟨rfl, 0, rfl⟩
  · by_cases h1 : x = 1
    · subst h1
      go_enter Tryz.func39, Tryz.ntmps39
      go_wp2
      go_ret
      exact ⟨rfl, 0, rfl⟩
    · have b0 : ((x == 0) : Bool) = false := by simp [h0]
      have b1 : ((x == 1) : Bool) = false := by simp [h1]
      have HB := Lib.hid (show bitB x = false by unfold bitB; exact decide_eq_false (by omega))
      clear h0 h1
      go_enter Tryz.func39, Tryz.ntmps39
      go_wp2
      go_ret
      exact ⟨ret_bool HB.out.symm, 0, rfl⟩
theorem isBit_enters (args : Array Value) (W : World) : (callFunc 39 args).run Tryz.prog W = .ok (.enter 39 args) W :=
  enters Tryz.func39 (by kernel_rfl) (by kernel_rfl) args W
theorem areBits_any (a : Option Addr) (n c : Nat) (l : List Int) (w : World) (h : Ints w a n c l) :
    Calls Tryz.prog 38 #[.slice a n c, .func (.func 39) #[] #[]] w fun e w' => e = .returned (.bool (allB l 0 1)) ∧ Below w.heap.size w w' :=
  areAll_any a n c l 39 #[] bitB w h isBit_enters (fun W x _ _ => isBit_any x W)
set_option maxHeartbeats 400000 in
theorem areElements_1_any (x P : Int) (p : Addr) (w : World) (hp : w.cell? p = some (.int .i64 P)) (h1 : 1 ≤ P) (h2 : P ≤ 1000000) :
    Calls Tryz.prog 126 #[.int .i64 x, .pointer (some p)] w fun e w' => e = .returned (.bool (decide (0 ≤ x ∧ x ≤ P - 1))) ∧ ∃ m, w' = w.drewN m := by
  go_enter Tryz.func126, Tryz.ntmps126
  go_wp2_with (go_at_call 62; refine (within_any _ _ _ _).mono ?_; rintro e w' ⟨rfl, rfl⟩)
  go_ret
  exact ⟨rfl, 0, rfl⟩
theorem areElements_1_enters (args : Array Value) (W : World) : (callFunc 126 args).run Tryz.prog W = .ok (.enter 126 args) W :=
  enters Tryz.func126 (by kernel_rfl) (by kernel_rfl) args W
set_option maxHeartbeats 1000000 in
theorem areElements_any (p : Int) (a : Option Addr) (n c : Nat) (l : List Int) (w : World) (h : Ints w a n c l) :
    Calls Tryz.prog 88 #[.int .i64 p, .slice a n c] w fun e w' => e = .returned (.bool (elsB p l)) ∧ Below w.heap.size w w' := by
  have hbel : Below w.heap.size w (w.alloc (.cells #[.int .i64 p] 3)) := (Below.refl _ _).alloc (Nat.le_refl _) _
  have hc : (w.alloc (.cells #[.int .i64 p] 3)).cell? ⟨w.heap.size, 0, none⟩ = some (.int .i64 p) := cell_new _ _ _
  unfold elsB
  cases hp : isPr p
  · simp only [Bool.false_and]
    go_enter Tryz.func88, Tryz.ntmps88
    go_wp2_with (go_at_call 36; refine (IsPrime_any _ _).mono ?_; rintro e w' ⟨rfl, m, rfl⟩)
    go_ret
    exact ⟨rfl, below_drewN hbel _⟩
  · obtain ⟨r1, r2⟩ := isPr_range hp
    simp only [Bool.true_and]
    have haa := fun (m : Nat) => areAll_any a n c l 126 #[.pointer (some ⟨w.heap.size, 0, none⟩)] (fun x => decide (0 ≤ x ∧ x ≤ p - 1)) ((w.alloc (.cells #[.int .i64 p] 3)).drewN m) ((h.alloc _).drewN m) areElements_1_enters
      (fun W x hb _ => areElements_1_any x p _ W (by rw [hb.cell (by simp)]; exact hc) (by omega) (by omega))
    have HAA := Lib.hid haa
    clear haa
    go_enter Tryz.func88, Tryz.ntmps88
    go_wp2_with (first | (go_at_call 36; refine (IsPrime_any _ _).mono ?_; rintro e w' ⟨rfl, m, rfl⟩) | (go_at_call 38; refine (HAA.out _).mono ?_; rintro e w' ⟨rfl, u⟩))
    go_ret
    have u1 := ‹Below (World.drewN _ _).heap.size _ _›
    exact ⟨ret_bool (by simp [allB]), (below_drewN hbel _).trans (u1.mono (by simp))⟩
def pairB (p : Int) (l : List Int) : Bool := elsB p l && decide (l.length = 2)
def bpairB (l : List Int) : Bool := decide (l.length = 2) && allB l 0 1
set_option maxHeartbeats 400000 in
theorem isPair_any (p : Int) (a : Option Addr) (n c : Nat) (l : List Int) (w : World) (h : Ints w a n c l) :
    Calls Tryz.prog 47 #[.int .i64 p, .slice a n c] w fun e w' => e = .returned (.bool (pairB p l)) ∧ Below w.heap.size w w' := by
  have hn := h.le
  have hl := h.len
  unfold pairB
  cases he : elsB p l
  · simp only [Bool.false_and]
    clear hl
    go_enter Tryz.func47, Tryz.ntmps47
    go_wp2_with fail
    refine (areElements_any _ _ _ _ l _ h).mono ?_; rintro e w1 ⟨rfl, u⟩
    go_wp2
    go_ret
    exact ⟨rfl, by assumption⟩
  · simp only [Bool.true_and]
    by_cases h2 : n = 2
    · rw [decide_eq_true (by omega)]
      have hb : ((n : Int) == 2) = true := by simp [h2]
      clear h2 hl
      go_enter Tryz.func47, Tryz.ntmps47
      go_wp2_with fail
      refine (areElements_any _ _ _ _ l _ h).mono ?_; rintro e w1 ⟨rfl, u⟩
      go_wp2
      go_ret
      exact ⟨rfl, by assumption⟩
    · rw [decide_eq_false (by omega)]
      have hb : ((n : Int) == 2) = false := by simp; omega
      clear h2 hl
      go_enter Tryz.func47, Tryz.ntmps47
      go_wp2_with fail
      refine (areElements_any _ _ _ _ l _ h).mono ?_; rintro e w1 ⟨rfl, u⟩
      go_wp2
      go_ret
      exact ⟨rfl, by assumption⟩
set_option maxHeartbeats 400000 in
theorem trPair_any (p : Int) (a : Option Addr) (n c : Nat) (l : List Int) (w : World) (h : Ints w a n c l) :
    Calls Tryz.prog 53 #[.int .i64 p, .slice a n c] w fun e w' => e = .returned (.bool (pairB p l)) ∧ Below w.heap.size w w' := by
  have hn := h.le
  have hl := h.len
  unfold pairB
  cases he : elsB p l
  · simp only [Bool.false_and]
    clear hl
    go_enter Tryz.func53, Tryz.ntmps53
    go_wp2_with fail
    refine (fpIn_any _ _ _ _ l _ h).mono ?_; rintro e w1 ⟨rfl, q⟩
    go_wp2
    go_ret
    exact ⟨rfl, below_of_quiet (by assumption)⟩
  · simp only [Bool.true_and]
    by_cases h2 : n = 2
    · rw [decide_eq_true (by omega)]
      have hb : ((n : Int) == 2) = true := by simp [h2]
      clear h2 hl
      go_enter Tryz.func53, Tryz.ntmps53
      go_wp2_with fail
      refine (fpIn_any _ _ _ _ l _ h).mono ?_; rintro e w1 ⟨rfl, q⟩
      go_wp2
      go_ret
      exact ⟨rfl, below_of_quiet (by assumption)⟩
    · rw [decide_eq_false (by omega)]
      have hb : ((n : Int) == 2) = false := by simp; omega
      clear h2 hl
      go_enter Tryz.func53, Tryz.ntmps53
      go_wp2_with fail
      refine (fpIn_any _ _ _ _ l _ h).mono ?_; rintro e w1 ⟨rfl, q⟩
      go_wp2
      go_ret
      exact ⟨rfl, below_of_quiet (by assumption)⟩
set_option maxHeartbeats 400000 in
theorem isBitPair_any (a : Option Addr) (n c : Nat) (l : List Int) (w : World) (h : Ints w a n c l) :
    Calls Tryz.prog 63 #[.slice a n c] w fun e w' => e = .returned (.bool (bpairB l)) ∧ Below w.heap.size w w' := by
  have hn := h.le
  have hl := h.len
  unfold bpairB
  by_cases h2 : n = 2
  · rw [decide_eq_true (by omega)]
    simp only [Bool.true_and]
    have hb : ((n : Int) == 2) = true := by simp [h2]
    clear h2 hl
    go_enter Tryz.func63, Tryz.ntmps63
    go_wp2_with fail
    refine (areBits_any _ _ _ l _ h).mono ?_; rintro e w1 ⟨rfl, u⟩
    go_wp2
    go_ret
    exact ⟨rfl, by assumption⟩
  · rw [decide_eq_false (by omega)]
    simp only [Bool.false_and]
    have hb : ((n : Int) == 2) = false := by simp; omega
    clear h2 hl
    go_enter Tryz.func63, Tryz.ntmps63
    go_wp2
    go_ret
    exact ⟨rfl, Below.refl _ _⟩
set_option maxHeartbeats 400000 in
theorem cvBit_any (a : Option Addr) (n c : Nat) (l : List Int) (w : World) (h : Ints w a n c l) :
    Calls Tryz.prog 65 #[.slice a n c] w fun e w' => e = .returned (.bool (bpairB l)) ∧ Below w.heap.size w w' := by
  have hn := h.le
  have hl := h.len
  unfold bpairB
  by_cases h2 : n = 2
  · rw [decide_eq_true (by omega)]
    simp only [Bool.true_and]
    have hb : ((n : Int) == 2) = true := by simp [h2]
    clear h2 hl
    go_enter Tryz.func65, Tryz.ntmps65
    go_wp2_with fail
    refine (l1All_any _ _ _ l _ _ _ h).mono ?_; rintro e w1 ⟨rfl, q⟩
    go_wp2
    go_ret
    exact ⟨rfl, below_of_quiet (by assumption)⟩
  · rw [decide_eq_false (by omega)]
    simp only [Bool.false_and]
    have hb : ((n : Int) == 2) = false := by simp; omega
    clear h2 hl
    go_enter Tryz.func65, Tryz.ntmps65
    go_wp2
    go_ret
    exact ⟨rfl, Below.refl _ _⟩
end Go.Proofs.YtchmakepglaijaaGreat
namespace Go.Proofs.YtchmakepglaijaaGreat
open Go.RowKit
def WB (l : List Int) : Prop := ∀ x ∈ l, -4000000000 ≤ x ∧ x ≤ 4000000000
theorem WB.app {l l' : List Int} (h : WB l) (h' : WB l') : WB (l ++ l') := fun x hx => by
  rcases List.mem_append.1 hx with h1 | h1
  · exact h x h1
  · exact h' x h1
theorem WB.one {x : Int} (h : -4000000000 ≤ x ∧ x ≤ 4000000000) : WB [x] := fun y hy => by simp at hy; subst hy; exact h
theorem WB.two {x y : Int} (h : -4000000000 ≤ x ∧ x ≤ 4000000000) (h' : -4000000000 ≤ y ∧ y ≤ 4000000000) : WB [x, y] := fun z hz => by
  simp at hz; rcases hz with rfl | rfl
  · exact h
  · exact h'
theorem WB.cons {x : Int} {l : List Int} (h : -4000000000 ≤ x ∧ x ≤ 4000000000) (h' : WB l) : WB (x :: l) := fun z hz => by
  rcases List.mem_cons.1 hz with rfl | hz
  · exact h
  · exact h' z hz
theorem WB.nil : WB [] := fun x hx => by cases hx
def digStep (a x : Int) : Int := (25214 * a + x + 17) % 1000003 * ((25214 * a + x + 17) % 1000003 / 64 + 5) % 1000003
theorem digStep_range (a x : Int) : 0 ≤ digStep a x ∧ digStep a x ≤ 1000002 := by
  unfold digStep
  exact ⟨Int.emod_nonneg _ (by decide), by have := Int.emod_lt_of_pos ((25214 * a + x + 17) % 1000003 * ((25214 * a + x + 17) % 1000003 / 64 + 5)) (by decide : (0 : Int) < 1000003); omega⟩
def digA (l : List Int) (z : Int) : Int := l.foldl digStep z
theorem digA_snoc (l : List Int) (z : Int) (k : Nat) (h : k < l.length) : digA (l.take (k + 1)) z = digStep (digA (l.take k) z) (l.getD k 0) := by
  unfold digA
  rw [List.take_succ_eq_append_getElem h, List.foldl_append]
  simp [List.getD, h]
theorem digA_range (l : List Int) : ∀ (z : Int), 0 ≤ z → z ≤ 2000000 → 0 ≤ digA l z ∧ digA l z ≤ 2000000 := by
  unfold digA
  induction l with
  | nil => intro z h1 h2; exact ⟨h1, h2⟩
  | cons x l ih => intro z h1 h2; simp only [List.foldl_cons]; have := digStep_range z x; exact ih _ this.1 (by omega)
def digI (l : List Int) : Int := digA (l ++ [8, 1]) (40503 + l.length) % 65536
theorem digI_range (l : List Int) : 0 ≤ digI l ∧ digI l ≤ 65535 := by
  unfold digI
  exact ⟨Int.emod_nonneg _ (by decide), by have := Int.emod_lt_of_pos (digA (l ++ [8, 1]) (40503 + l.length)) (by decide : (0 : Int) < 65536); omega⟩
theorem sq_range {b : Int} (h0 : 0 ≤ b) (h1 : b ≤ 1000002) : 0 ≤ b * (b / 64 + 5) ∧ b * (b / 64 + 5) ≤ 20000000000 := by
  have a1 : 0 ≤ b / 64 + 5 := by omega
  have a2 : b / 64 + 5 ≤ 15635 := by omega
  refine ⟨Int.mul_nonneg h0 a1, ?_⟩
  have : b * (b / 64 + 5) ≤ 1000002 * 15635 := Int.mul_le_mul h1 a2 a1 (by omega)
  omega
set_option maxHeartbeats 1000000 in
theorem Clone_any (a : Option Addr) (n c : Nat) (l : List Int) (w : World) (h : Ints w a n c l) (hs : n ≤ 10000000) :
    Calls Tryz.prog 73 #[.slice a n c] w fun e w' => ∃ a' c', e = .returned (.slice a' n c') ∧ Own w' w.heap.size a' n c' l ∧ Below w.heap.size w w' := by
  have hnil := fun (W : World) => Lib.run_eql_slice_nil W 23 3 a n c 0 0 Tryz.underlying23
  have hn := h.le
  cases a with
  | none =>
    have hc : c = 0 := h.2.2.2.1 rfl
    have hn0 : n = 0 := by have := h.2.1; omega
    subst hc; subst hn0
    have hl : l = [] := List.eq_nil_of_length_eq_zero h.len.symm
    subst hl
    go_enter Tryz.func73, Tryz.ntmps73
    go_wp2
    go_ret
    exact ⟨_, _, rfl, Own.nil0 _ _ _, Below.refl _ _⟩
  | some y =>
    go_enter Tryz.func73, Tryz.ntmps73
    go_wp2_with (at_builtin; refine wpList_appI _ rfl _ _ rfl w.heap.size _ 0 0 [] rfl (Own.nil0 _ _ _) _ n c l rfl (h.alloc _) (by omega) (by simp) ?_)
    intro a2 c2 w1 own hb _
    try simp only [Nat.zero_add, List.nil_append] at own
    have hb1 := ((Below.refl _ w).alloc (Nat.le_refl _) _).trans hb
    clear hb
    go_wp2
    go_ret
    exact ⟨_, _, ret_slice (by omega), own, hb1⟩
set_option maxHeartbeats 1000000 in
theorem l1Own_any (a : Option Addr) (n c : Nat) (l : List Int) (w : World) (h : Ints w a n c l) (hs : n ≤ 10000000) :
    Calls Tryz.prog 140 #[.slice a n c] w fun e w' => ∃ a' c', e = .returned (.slice a' n c') ∧ Own w' w.heap.size a' n c' l ∧ Below w.heap.size w w' := by
  have hn := h.le
  go_enter Tryz.func140, Tryz.ntmps140
  go_wp2_with (at_builtin; refine wpList_appI _ rfl _ _ rfl w.heap.size _ 0 0 [] rfl (Own.nil0 _ _ _) _ n c l rfl (h.alloc _) (by omega) (by simp) ?_)
  intro a2 c2 w1 own hb _
  try simp only [Nat.zero_add, List.nil_append] at own
  have hb1 := ((Below.refl _ w).alloc (Nat.le_refl _) _).trans hb
  clear hb
  go_wp2
  go_ret
  exact ⟨_, _, ret_slice (by omega), own, hb1⟩
set_option maxHeartbeats 400000 in
theorem btMod_same (n p : Int) (w : World) (h1 : 1 ≤ p) (h2 : p ≤ 1000000000) :
    Calls Tryz.prog 70 #[.int .i64 n, .int .i64 p] w fun e w' => e = .returned (.int .i64 (n % p)) ∧ w' = w := by
  have b1 := Int.tmod_lt_of_pos n (by omega : 0 < p)
  have b2 := Int.lt_tmod_of_pos n (by omega : 0 < p)
  have E2 := Lib.hid (mod_core p n h1)
  go_enter Tryz.func70, Tryz.ntmps70
  go_wp2
  go_ret
  exact ⟨ret_int E2.out, rfl⟩
theorem btMod_any (n p : Int) (w : World) (h1 : 1 ≤ p) (h2 : p ≤ 1000000000) :
    Calls Tryz.prog 70 #[.int .i64 n, .int .i64 p] w fun e w' => e = .returned (.int .i64 (n % p)) ∧ ∃ m, w' = w.drewN m :=
  (btMod_same n p w h1 h2).mono fun _ _ ⟨he, hw⟩ => ⟨he, 0, hw⟩
theorem snoc_getD (l l' : List Int) (k : Nat) (h : k < l.length) : (l ++ l').getD k 0 = l.getD k 0 := by simp [List.getD, List.getElem?_append_left h]
theorem mem_range {l : List Int} (h : WB l) (k : Nat) (hk : k < l.length) : -4000000000 ≤ l.getD k 0 ∧ l.getD k 0 ≤ 4000000000 := h _ (getD_mem l k hk)
theorem WB_end : WB [8, 1] := WB.two (by omega) (by omega)
set_option maxHeartbeats 2000000 in
theorem digest_any (a : Option Addr) (n c : Nat) (l : List Int) (w : World) (h : Ints w a n c l) (hs : n ≤ 1000000) (hw : WB l) :
    Calls Tryz.prog 138 #[.slice a n c] w fun e w' => e = .returned (.int .i64 (digI l)) ∧ Below w.heap.size w w' := by
  have hn := h.le
  have HL := Lib.hid h.len
  have HW := Lib.hid (WB.app hw WB_end)
  clear hw
  go_enter Tryz.func138, Tryz.ntmps138
  go_wp2_with fail
  refine (Clone_any _ _ _ l _ h (by omega)).mono ?_; rintro e w1 ⟨a1, c1, rfl, o1, u1⟩
  go_wp2_with (at_builtin; refine wpList_appI _ rfl _ _ rfl w.heap.size a1 n c1 l rfl (o1.alloc _) _ 2 2 [8, 1] rfl (Ints.lit2 _ _ _ _) (by omega) (by have := u1.size; simp; omega) ?_)
  intro a2 c2 w2 o2 u2 _
  have v2 := (u1.alloc u1.size (.cells #[.int .i64 8, .int .i64 1] 3)).trans u2
  have h2 := o2.ints
  clear u1 u2 o1 o2
  go_wp2
  go_loopw [3, 14] (fun u v wr => ∃ k : Nat, k ≤ n + 2 ∧ v = .int .i64 k ∧ u = .int .i64 (digA ((l ++ [8, 1]).take k) (40503 + l.length)) ∧ ∃ m, wr = w2.drewN m) (fun _ v _ => n + 2 - (intOf v).toNat)
  case atStart => exact ⟨0, Nat.zero_le _, rfl, v_int (by rw [HL.out]; simp [digA]), 0, rfl⟩
  case round =>
    obtain ⟨k, hk, rfl, rfl, m, rfl⟩ := hrel
    have hzr := digA_range ((l ++ [8, 1]).take k) (40503 + l.length) (by omega) (by have := HL.out; omega)
    by_cases hlt : k < n + 2
    · obtain ⟨g, o, rfl, hcell⟩ := h2.at k hlt
      have hkl : k < (l ++ [8, 1]).length := by have := HL.out; simp; omega
      have hs := digA_snoc (l ++ [8, 1]) (40503 + l.length) k hkl
      have hx := mem_range HW.out k hkl
      obtain ⟨x, hxe⟩ : ∃ x, x = (l ++ [8, 1]).getD k 0 := ⟨_, rfl⟩
      rw [← hxe] at hcell hs hx
      clear hxe
      obtain ⟨z, hze⟩ : ∃ z, z = digA ((l ++ [8, 1]).take k) (40503 + l.length) := ⟨_, rfl⟩
      rw [← hze] at hs hzr
      rw [← hze]
      clear hze
      unfold digStep at hs
      have HS := Lib.hid hs
      clear hs
      obtain ⟨hz1, hz2⟩ := hzr
      obtain ⟨hx1, hx2⟩ := hx
      obtain ⟨b, hb⟩ : ∃ b, b = (25214 * z + x + 17) % 1000003 := ⟨_, rfl⟩
      have hb1 : 0 ≤ b := by rw [hb]; exact Int.emod_nonneg _ (by decide)
      have hb2 : b ≤ 1000002 := by rw [hb]; have := Int.emod_lt_of_pos (25214 * z + x + 17) (by decide : (0 : Int) < 1000003); omega
      obtain ⟨hs1, hs2⟩ := sq_range hb1 hb2
      · have b1 := Int.tmod_lt_of_pos (25214 * z + x + 17) (by decide : (0 : Int) < 1000003)
        have b2 := Int.lt_tmod_of_pos (25214 * z + x + 17) (by decide : (0 : Int) < 1000003)
        have he : ((25214 * z + x + 17).tmod 1000003 + 1000003) % 1000003 = b := by rw [hb]; exact mod_core 1000003 _ (by decide)
        have HB := Lib.hid hb
        clear hb
        go_wp2
        go_roundw
        case rel => exact ⟨k + 1, by omega, by go_num, v_int (by rw [HS.out, HB.out]), _, rfl⟩
        case measure => simp [intOf]; omega
    · obtain rfl : k = n + 2 := by omega
      have HE := Lib.hid (show digI l = digA ((l ++ [8, 1]).take (n + 2)) (40503 + l.length) % 65536 by
        unfold digI
        rw [List.take_of_length_le (by have := HL.out; simp; omega)])
      obtain ⟨z, hze⟩ : ∃ z, z = digA ((l ++ [8, 1]).take (n + 2)) (40503 + l.length) := ⟨_, rfl⟩
      rw [← hze] at HE hzr
      rw [← hze]
      clear hze
      obtain ⟨hz1, hz2⟩ := hzr
      go_wp2
      go_ret
      exact ⟨ret_int HE.out.symm, below_drewN v2 _⟩
set_option maxHeartbeats 2000000 in
theorem dgMix_any (a : Option Addr) (n c : Nat) (l : List Int) (w : World) (h : Ints w a n c l) (hs : n ≤ 1000000) (hw : WB l) :
    Calls Tryz.prog 139 #[.slice a n c] w fun e w' => e = .returned (.int .i64 (digI l)) ∧ Below w.heap.size w w' := by
  have hn := h.le
  have HL := Lib.hid h.len
  have HW := Lib.hid (WB.app hw WB_end)
  clear hw
  go_enter Tryz.func139, Tryz.ntmps139
  go_wp2_with fail
  refine (l1Own_any _ _ _ l _ h (by omega)).mono ?_; rintro e w1 ⟨a1, c1, rfl, o1, u1⟩
  go_wp2_with (at_builtin; refine wpList_appI _ rfl _ _ rfl w.heap.size a1 n c1 l rfl (o1.alloc _) _ 2 2 [8, 1] rfl (Ints.lit2 _ _ _ _) (by omega) (by have := u1.size; simp; omega) ?_)
  intro a2 c2 w2 o2 u2 _
  have v2 := (u1.alloc u1.size (.cells #[.int .i64 8, .int .i64 1] 3)).trans u2
  have h2 := o2.ints
  clear u1 u2 o1 o2
  go_wp2
  go_loopw [3, 14] (fun u v wr => ∃ k : Nat, k ≤ n + 2 ∧ v = .int .i64 k ∧ u = .int .i64 (digA ((l ++ [8, 1]).take k) (40503 + l.length)) ∧ ∃ m, wr = w2.drewN m) (fun _ v _ => n + 2 - (intOf v).toNat)
  case atStart => exact ⟨0, Nat.zero_le _, rfl, v_int (by rw [HL.out]; simp [digA]), 0, rfl⟩
  case round =>
    obtain ⟨k, hk, rfl, rfl, m, rfl⟩ := hrel
    have hzr := digA_range ((l ++ [8, 1]).take k) (40503 + l.length) (by omega) (by have := HL.out; omega)
    by_cases hlt : k < n + 2
    · obtain ⟨g, o, rfl, hcell⟩ := h2.at k hlt
      have hkl : k < (l ++ [8, 1]).length := by have := HL.out; simp; omega
      have hs := digA_snoc (l ++ [8, 1]) (40503 + l.length) k hkl
      have hx := mem_range HW.out k hkl
      obtain ⟨x, hxe⟩ : ∃ x, x = (l ++ [8, 1]).getD k 0 := ⟨_, rfl⟩
      rw [← hxe] at hcell hs hx
      clear hxe
      obtain ⟨z, hze⟩ : ∃ z, z = digA ((l ++ [8, 1]).take k) (40503 + l.length) := ⟨_, rfl⟩
      rw [← hze] at hs hzr
      rw [← hze]
      clear hze
      unfold digStep at hs
      have HS := Lib.hid hs
      clear hs
      obtain ⟨hz1, hz2⟩ := hzr
      obtain ⟨hx1, hx2⟩ := hx
      obtain ⟨b, hb⟩ : ∃ b, b = (25214 * z + x + 17) % 1000003 := ⟨_, rfl⟩
      have hb1 : 0 ≤ b := by rw [hb]; exact Int.emod_nonneg _ (by decide)
      have hb2 : b ≤ 1000002 := by rw [hb]; have := Int.emod_lt_of_pos (25214 * z + x + 17) (by decide : (0 : Int) < 1000003); omega
      obtain ⟨hs1, hs2⟩ := sq_range hb1 hb2
      · have HB := Lib.hid hb
        go_wp2_with fail
        refine (btMod_any _ _ _ (by omega) (by omega)).mono ?_; rintro e w4 ⟨rfl, q4⟩
        rw [← hb]
        clear hb
        obtain ⟨m4, rfl⟩ := q4
        go_wp2
        go_roundw
        case rel => exact ⟨k + 1, by omega, by go_num, v_int (by rw [HS.out, HB.out]), _, rfl⟩
        case measure => simp [intOf]; omega
    · obtain rfl : k = n + 2 := by omega
      have HE := Lib.hid (show digI l = digA ((l ++ [8, 1]).take (n + 2)) (40503 + l.length) % 65536 by
        unfold digI
        rw [List.take_of_length_le (by have := HL.out; simp; omega)])
      obtain ⟨z, hze⟩ : ∃ z, z = digA ((l ++ [8, 1]).take (n + 2)) (40503 + l.length) := ⟨_, rfl⟩
      rw [← hze] at HE hzr
      rw [← hze]
      clear hze
      obtain ⟨hz1, hz2⟩ := hzr
      go_wp2
      go_ret
      exact ⟨ret_int HE.out.symm, below_drewN v2 _⟩
set_option maxHeartbeats 1000000 in
theorem with_any (a : Option Addr) (n c : Nat) (l : List Int) (a' : Option Addr) (n' c' : Nat) (l' : List Int) (w : World) (h : Ints w a n c l) (h' : Ints w a' n' c' l') (hs : n ≤ 10000000) (hs' : n' ≤ 10000000) :
    Calls Tryz.prog 81 #[.slice a n c, .slice a' n' c'] w fun e w' => ∃ a2 c2, e = .returned (.slice a2 (n + n') c2) ∧ Own w' w.heap.size a2 (n + n') c2 (l ++ l') ∧ Below w.heap.size w w' := by
  go_enter Tryz.func81, Tryz.ntmps81
  go_wp2_with fail
  refine (Clone_any _ _ _ l _ h hs).mono ?_; rintro e w1 ⟨a1, c1, rfl, o1, u1⟩
  go_wp2_with (at_builtin; refine wpList_appI _ rfl _ _ rfl w.heap.size a1 n c1 l rfl o1 _ n' c' l' rfl (h'.below u1) (by omega) u1.size ?_)
  intro a2 c2 w2 o2 u2 _
  have v2 := u1.trans u2
  clear u1 u2
  go_wp2
  go_ret
  exact ⟨_, _, rfl, o2, v2⟩
set_option maxHeartbeats 1000000 in
theorem dgWith_any (a : Option Addr) (n c : Nat) (l : List Int) (x : Int) (w : World) (h : Ints w a n c l) (hs : n ≤ 10000000) :
    Calls Tryz.prog 141 #[.slice a n c, .int .i64 x] w fun e w' => ∃ a2 c2, e = .returned (.slice a2 (n + 1) c2) ∧ Own w' w.heap.size a2 (n + 1) c2 (l ++ [x]) ∧ Below w.heap.size w w' := by
  go_enter Tryz.func141, Tryz.ntmps141
  go_wp2_with fail
  refine (l1Own_any _ _ _ l _ h hs).mono ?_; rintro e w1 ⟨a1, c1, rfl, o1, u1⟩
  go_wp2_with (at_builtin; refine wpList_appI _ rfl _ _ rfl w.heap.size a1 n c1 l rfl (o1.alloc _) _ 1 1 [x] rfl (Ints.lit1 _ _ _) (by omega) (by have := u1.size; simp; omega) ?_)
  intro a2 c2 w2 o2 u2 _
  have v2 := (u1.alloc u1.size (.cells #[.int .i64 x] 3)).trans u2
  clear u1 u2
  go_wp2
  go_ret
  exact ⟨_, _, rfl, o2, v2⟩
def numI (l : List Int) (n : Int) : Int := digI (l ++ [n]) % n
theorem numI_range (l : List Int) (n : Int) (h : 1 ≤ n) : 0 ≤ numI l n ∧ numI l n ≤ n - 1 := by
  unfold numI
  exact ⟨Int.emod_nonneg _ (by omega), by have := Int.emod_lt_of_pos (digI (l ++ [n])) (by omega : 0 < n); omega⟩
set_option maxHeartbeats 1000000 in
theorem numberFrom_any (a : Option Addr) (m c : Nat) (l : List Int) (n : Int) (w : World) (h : Ints w a m c l) (hs : m ≤ 900000) (hw : WB l) (h1 : 1 ≤ n) (h2 : n ≤ 2000000000) :
    Calls Tryz.prog 111 #[.slice a m c, .int .i64 n] w fun e w' => e = .returned (.int .i64 (numI l n)) ∧ Below w.heap.size w w' := by
  have hd := digI_range (l ++ [n])
  obtain ⟨d1, d2⟩ := hd
  go_enter Tryz.func111, Tryz.ntmps111
  go_wp2_with fail
  refine (with_any _ _ _ l _ _ _ [n] _ (h.alloc _) (Ints.lit1 _ _ _) (by omega) (by omega)).mono ?_; rintro e w1 ⟨a1, c1, rfl, o1, u1⟩
  have v1 := below_a1 u1
  clear u1
  go_wp2_with fail
  refine (digest_any _ _ _ (l ++ [n]) _ o1.ints (by omega) (WB.app hw (WB.one (by omega)))).mono ?_; rintro e w2 ⟨rfl, u2⟩
  have v2 := v1.trans (u2.mono v1.size)
  clear u2 v1 o1
  go_wp2
  go_ret
  exact ⟨rfl, v2⟩
set_option maxHeartbeats 1000000 in
theorem dgBelow_any (a : Option Addr) (m c : Nat) (l : List Int) (n : Int) (w : World) (h : Ints w a m c l) (hs : m ≤ 900000) (hw : WB l) (h1 : 1 ≤ n) (h2 : n ≤ 2000000000) :
    Calls Tryz.prog 113 #[.slice a m c, .int .i64 n] w fun e w' => e = .returned (.int .i64 (numI l n)) ∧ Below w.heap.size w w' := by
  have hd := digI_range (l ++ [n])
  obtain ⟨d1, d2⟩ := hd
  go_enter Tryz.func113, Tryz.ntmps113
  go_wp2_with fail
  refine (dgWith_any _ _ _ l _ _ h (by omega)).mono ?_; rintro e w1 ⟨a1, c1, rfl, o1, v1⟩
  go_wp2_with fail
  refine (dgMix_any _ _ _ (l ++ [n]) _ o1.ints (by omega) (WB.app hw (WB.one (by omega)))).mono ?_; rintro e w2 ⟨rfl, u2⟩
  have v2 := v1.trans (u2.mono v1.size)
  clear u2 v1 o1
  go_wp2
  go_ret
  exact ⟨rfl, v2⟩
def bitsI (l : List Int) (n : Nat) : List Int := (List.range n).map fun (i : Nat) => digI (l ++ [(i : Int), 2]) / 8 % 2
theorem bitsI_succ (l : List Int) (n : Nat) : bitsI l (n + 1) = bitsI l n ++ [digI (l ++ [(n : Int), 2]) / 8 % 2] := by unfold bitsI; rw [List.range_succ, List.map_append]; rfl
theorem bitsI_bit (l : List Int) (n k : Nat) (h : k < n) : (bitsI l n).getD k 0 = 0 ∨ (bitsI l n).getD k 0 = 1 := by
  unfold bitsI
  simp [List.getD, h]
  omega
set_option maxHeartbeats 2000000 in
theorem bitsFrom_any (a : Option Addr) (m c : Nat) (l : List Int) (N : Int) (w : World) (h : Ints w a m c l) (hs : m ≤ 900000) (hw : WB l) (hN : 0 ≤ N) (hN2 : N ≤ 1000000) :
    Calls Tryz.prog 110 #[.slice a m c, .int .i64 N] w fun e w' => ∃ a' c', e = .returned (.slice a' N.toNat c') ∧ Own w' w.heap.size a' N.toNat c' (bitsI l N.toNat) ∧ Below w.heap.size w w' := by
  have HW := Lib.hid hw
  clear hw
  go_enter Tryz.func110, Tryz.ntmps110
  go_wp2
  have own0 : Own (w.alloc (.cells #[] 3)) w.heap.size (some ⟨w.heap.size, 0, none⟩) 0 0 (bitsI l 0) := Own.nil0 _ _ _
  have bel0 : Below w.heap.size w (w.alloc (.cells #[] 3)) := (Below.refl _ _).alloc (Nat.le_refl _) _
  go_loopw [5, 9] (fun u v wr => ∃ k : Nat, (k : Int) ≤ N ∧ v = .int .i64 k ∧ Below w.heap.size w wr ∧ ∃ a1 c1, u = .slice a1 k c1 ∧ Own wr w.heap.size a1 k c1 (bitsI l k)) (fun _ v _ => N.toNat - (intOf v).toNat)
  case atStart => exact ⟨0, by omega, rfl, bel0, _, _, rfl, own0⟩
  case round =>
    obtain ⟨k, hk, rfl, hbel, a1, c1, rfl, own⟩ := hrel
    have h1 := h.below hbel
    by_cases hlt : (k : Int) < N
    · have hd := digI_range (l ++ [(k : Int), 2])
      obtain ⟨d1, d2⟩ := hd
      have HS := Lib.hid (bitsI_succ l k)
      go_wp2_with fail
      refine (with_any _ _ _ l _ _ _ [(k : Int), 2] _ (h1.alloc _) (Ints.lit2 _ _ _ _) (by omega) (by omega)).mono ?_; rintro e w1 ⟨a3, c3, rfl, o3, u3⟩
      have v3 := below_a1 u3
      clear u3
      have own1 := own.below v3
      have b1 := hbel.trans (v3.mono hbel.size)
      clear own v3 h1 hbel
      go_wp2_with fail
      refine (digest_any _ _ _ (l ++ [(k : Int), 2]) _ o3.ints (by omega) (WB.app HW.out (WB.two (by omega) (by omega)))).mono ?_; rintro e w2 ⟨rfl, u5⟩
      have own2 := own1.below u5
      have b2 := b1.trans (u5.mono b1.size)
      clear own1 u5 b1 o3
      go_wp2_with (at_builtin; refine wpList_appI _ rfl _ _ rfl w.heap.size a1 k c1 (bitsI l k) rfl (own2.alloc _) _ 1 1 [digI (l ++ [(k : Int), 2]) / 8 % 2] rfl (Ints.lit1 _ _ _) (by omega) (by have := b2.size; simp; omega) ?_)
      intro a5 c5 w3 o5 u5 _
      have b3 := (b2.alloc b2.size (.cells #[.int .i64 (digI (l ++ [(k : Int), 2]) / 8 % 2)] 3)).trans u5
      clear u5 b2 own2
      go_wp2
      go_roundw
      case rel => exact ⟨k + 1, by omega, by go_num, b3, a5, c5, rfl, by rw [HS.out]; exact o5⟩
      case measure => simp [intOf]; omega
    · have HE := Lib.hid (show N.toNat = k by omega)
      go_wp2
      go_ret
      refine ⟨a1, c1, ?_, ?_, hbel⟩
      · rw [HE.out]; rfl
      · rw [HE.out]; exact own
set_option maxHeartbeats 2000000 in
theorem dgBits_any (a : Option Addr) (m c : Nat) (l : List Int) (N : Int) (w : World) (h : Ints w a m c l) (hs : m ≤ 900000) (hw : WB l) (hN : 0 ≤ N) (hN2 : N ≤ 1000000) :
    Calls Tryz.prog 112 #[.slice a m c, .int .i64 N] w fun e w' => ∃ a' c', e = .returned (.slice a' N.toNat c') ∧ Own w' w.heap.size a' N.toNat c' (bitsI l N.toNat) ∧ Below w.heap.size w w' := by
  have HW := Lib.hid hw
  clear hw
  go_enter Tryz.func112, Tryz.ntmps112
  go_wp2
  have own0 : Own w w.heap.size none 0 0 (bitsI l 0) := Own.nil0 _ _ _
  have bel0 := Below.refl w.heap.size w
  go_loopw [5, 6] (fun u v wr => ∃ k : Nat, (k : Int) ≤ N ∧ v = .int .i64 k ∧ Below w.heap.size w wr ∧ ∃ a1 c1, u = .slice a1 k c1 ∧ Own wr w.heap.size a1 k c1 (bitsI l k)) (fun _ v _ => N.toNat - (intOf v).toNat)
  case atStart => exact ⟨0, by omega, rfl, bel0, _, _, rfl, own0⟩
  case round =>
    obtain ⟨k, hk, rfl, hbel, a1, c1, rfl, own⟩ := hrel
    have h1 := h.below hbel
    by_cases hlt : (k : Int) < N
    · have hd := digI_range (l ++ [(k : Int), 2])
      obtain ⟨d1, d2⟩ := hd
      have HS := Lib.hid (bitsI_succ l k)
      go_wp2_with fail
      refine (l1Own_any _ _ _ l _ h1 (by omega)).mono ?_; rintro e w0 ⟨a4, c4, rfl, o4, u4⟩
      go_wp2_with (at_builtin; refine wpList_appI _ rfl _ _ rfl wr.heap.size a4 m c4 l rfl (o4.alloc _) _ 2 2 [(k : Int), 2] rfl (Ints.lit2 _ _ _ _) (by omega) (by have := u4.size; simp; omega) ?_)
      intro a3 c3 w1 o3 u3 _
      have v3 := (u4.alloc u4.size (.cells #[.int .i64 k, .int .i64 2] 3)).trans u3
      clear u4 u3 o4
      have own1 := own.below v3
      have b1 := hbel.trans (v3.mono hbel.size)
      clear own v3 h1 hbel
      go_wp2_with fail
      refine (dgMix_any _ _ _ (l ++ [(k : Int), 2]) _ o3.ints (by omega) (WB.app HW.out (WB.two (by omega) (by omega)))).mono ?_; rintro e w2 ⟨rfl, u5⟩
      have own2 := own1.below u5
      have b2 := b1.trans (u5.mono b1.size)
      clear own1 u5 b1 o3
      go_wp2_with (at_builtin; refine wpList_appI _ rfl _ _ rfl w.heap.size a1 k c1 (bitsI l k) rfl (own2.alloc _) _ 1 1 [digI (l ++ [(k : Int), 2]) / 8 % 2] rfl (Ints.lit1 _ _ _) (by omega) (by have := b2.size; simp; omega) ?_)
      intro a5 c5 w3 o5 u5 _
      have b3 := (b2.alloc b2.size (.cells #[.int .i64 (digI (l ++ [(k : Int), 2]) / 8 % 2)] 3)).trans u5
      clear u5 b2 own2
      go_wp2
      go_roundw
      case rel => exact ⟨k + 1, by omega, by go_num, b3, a5, c5, rfl, by rw [HS.out]; exact o5⟩
      case measure => simp [intOf]; omega
    · have HE := Lib.hid (show N.toNat = k by omega)
      go_wp2
      go_ret
      refine ⟨a1, c1, ?_, ?_, hbel⟩
      · rw [HE.out]; rfl
      · rw [HE.out]; exact own
end Go.Proofs.YtchmakepglaijaaGreat
namespace Go.Proofs.YtchmakepglaijaaGreat
open Go.RowKit
set_option maxHeartbeats 400000 in
theorem isKey_any (k : Int) (w : World) : Calls Tryz.prog 37 #[.int .i64 k] w fun e w' => e = .returned (.bool (inB k 0 1000000000)) ∧ w = w' := by
  go_enter Tryz.func37, Tryz.ntmps37
  go_wp2_with (go_at_call 62; refine (within_any _ _ _ _).mono ?_; rintro e w' ⟨rfl, rfl⟩)
  go_ret
  exact ⟨rfl, rfl⟩
set_option maxHeartbeats 400000 in
theorem otKey_any (k : Int) (w : World) : Calls Tryz.prog 43 #[.int .i64 k] w fun e w' => e = .returned (.bool (inB k 0 1000000000)) ∧ w = w' := by
  go_enter Tryz.func43, Tryz.ntmps43
  go_wp2_with (go_at_call 76; refine (l1In_any _ _ _ _).mono ?_; rintro e w' ⟨rfl, rfl⟩)
  go_ret
  exact ⟨rfl, rfl⟩
end Go.Proofs.YtchmakepglaijaaGreat
namespace Go.Proofs.YtchmakepglaijaaGreat
open Go.RowKit
set_option maxHeartbeats 1000000 in
theorem IndexFunc_b (a : Option Addr) (n c : Nat) (l : List Int) (f : Nat) (cap : Array Value) (q : Int → Bool) (w : World) (h : Ints w a n c l)
    (hf : ∀ args W, (callFunc f args).run Tryz.prog W = .ok (.enter f args) W)
    (hq : ∀ W x, Below w.heap.size w W → x ∈ l → Calls Tryz.prog f (#[.int .i64 x] ++ cap) W fun e w' => e = .returned (.bool (q x)) ∧ Below W.heap.size W w') :
    Calls Tryz.prog 124 #[.slice a n c, .func (.func f) #[] cap] w fun e w' => ∃ i : Int, e = .returned (.int .i64 i) ∧ Hid (decide (0 ≤ i) = l.any q) ∧ Below w.heap.size w w' := by
  have hn := h.le
  have HQ := Lib.hid hq
  clear hq
  go_enter Tryz.func124, Tryz.ntmps124
  go_wp2
  go_loopw [8] (fun v wr => ∃ k : Nat, k ≤ n ∧ v = .int .i64 k ∧ (∀ i, i < k → q (l.getD i 0) = false) ∧ Below w.heap.size w wr) (fun v _ => n - (intOf v).toNat)
  case atStart => exact ⟨0, Nat.zero_le _, rfl, fun i hi => absurd hi (by omega), Below.refl _ _⟩
  case round =>
    obtain ⟨k, hk, rfl, hj, hbel⟩ := hrel
    have HJ := Lib.hid hj
    clear hj
    by_cases hlt : k < n
    · obtain ⟨g, o, rfl, hcell⟩ := (h.below hbel).at k hlt
      have HC := Lib.hid (HQ.out wr (l.getD k 0) hbel (getD_mem l k (by rw [← h.len]; exact hlt)))
      cases hb : q (l.getD k 0)
      · rw [hb] at HC
        have HB := Lib.hid hb
        clear hb
        go_wp2_with (refine HC.out.mono ?_; rintro e w' ⟨rfl, u⟩)
        have hbel' := hbel.trans (‹Below wr.heap.size wr _›.mono hbel.size)
        go_roundw
        case rel => exact ⟨k + 1, by omega, by go_num, fun i hi => by
          by_cases e : i = k
          · subst e; exact HB.out
          · exact HJ.out i (by omega), hbel'⟩
        case measure => simp [intOf]; omega
      · rw [hb] at HC
        have HB := Lib.hid (any_hit l q k (by rw [← h.len]; exact hlt) hb)
        clear hb
        go_wp2_with (refine HC.out.mono ?_; rintro e w' ⟨rfl, u⟩)
        have hbel' := hbel.trans (‹Below wr.heap.size wr _›.mono hbel.size)
        go_ret
        exact ⟨k, rfl, by unfold Hid; rw [HB.out]; simp, hbel'⟩
    · have HB := Lib.hid (any_miss l q (fun i hi => HJ.out i (by have := h.len; omega)))
      go_wp2
      go_ret
      exact ⟨-1, rfl, by unfold Hid; rw [HB.out]; decide, hbel⟩
set_option maxHeartbeats 1000000 in
theorem ContainsFunc_b (a : Option Addr) (n c : Nat) (l : List Int) (f : Nat) (cap : Array Value) (q : Int → Bool) (w : World) (h : Ints w a n c l)
    (hf : ∀ args W, (callFunc f args).run Tryz.prog W = .ok (.enter f args) W)
    (hq : ∀ W x, Below w.heap.size w W → x ∈ l → Calls Tryz.prog f (#[.int .i64 x] ++ cap) W fun e w' => e = .returned (.bool (q x)) ∧ Below W.heap.size W w') :
    Calls Tryz.prog 84 #[.slice a n c, .func (.func f) #[] cap] w fun e w' => e = .returned (.bool (l.any q)) ∧ Below w.heap.size w w' := by
  have HQ := Lib.hid hq
  have HF := Lib.hid hf
  clear hq hf
  go_enter Tryz.func84, Tryz.ntmps84
  go_wp2_with fail
  refine (IndexFunc_b _ _ _ l _ _ q _ h HF.out HQ.out).mono ?_; rintro e w' ⟨i, rfl, hi, u⟩
  go_wp2
  go_ret
  exact ⟨ret_bool hi.out, u⟩
set_option maxHeartbeats 1000000 in
theorem areAll_1_b (x : Int) (p : Addr) (f : Nat) (cap : Array Value) (b : Bool) (w : World) (hp : w.cell? p = some (.func (.func f) #[] cap))
    (hf : ∀ args W, (callFunc f args).run Tryz.prog W = .ok (.enter f args) W)
    (hq : Calls Tryz.prog f (#[.int .i64 x] ++ cap) w fun e w' => e = .returned (.bool b) ∧ Below w.heap.size w w') :
    Calls Tryz.prog 85 #[.int .i64 x, .pointer (some p)] w fun e w' => e = .returned (.bool (!b)) ∧ Below w.heap.size w w' := by
  have HQ := Lib.hid hq
  clear hq
  go_enter Tryz.func85, Tryz.ntmps85
  go_wp2_with (refine HQ.out.mono ?_; rintro e w' ⟨rfl, u⟩)
  go_ret
  have u1 := ‹Below w.heap.size w _›
  exact ⟨rfl, u1⟩
set_option maxHeartbeats 1000000 in
theorem areAll_b (a : Option Addr) (n c : Nat) (l : List Int) (f : Nat) (cap : Array Value) (q : Int → Bool) (w : World) (h : Ints w a n c l)
    (hf : ∀ args W, (callFunc f args).run Tryz.prog W = .ok (.enter f args) W)
    (hq : ∀ W x, Below w.heap.size w W → x ∈ l → Calls Tryz.prog f (#[.int .i64 x] ++ cap) W fun e w' => e = .returned (.bool (q x)) ∧ Below W.heap.size W w') :
    Calls Tryz.prog 38 #[.slice a n c, .func (.func f) #[] cap] w fun e w' => e = .returned (.bool (l.all q)) ∧ Below w.heap.size w w' := by
  have hall : (!l.any fun x => !q x) = l.all q := by rw [List.all_eq_not_any_not]
  have HALL := Lib.hid hall
  clear hall
  have hbel : Below w.heap.size w (w.alloc (.cells #[.func (.func f) #[] cap] 64)) := (Below.refl _ _).alloc (Nat.le_refl _) _
  have hc : (w.alloc (.cells #[.func (.func f) #[] cap] 64)).cell? ⟨w.heap.size, 0, none⟩ = some (.func (.func f) #[] cap) := cell_new _ _ _
  have hcf := ContainsFunc_b a n c l 85 #[.pointer (some ⟨w.heap.size, 0, none⟩)] (fun x => !q x) (w.alloc (.cells #[.func (.func f) #[] cap] 64)) (h.alloc _) areAll_1_enters
    (fun W x hb hx => areAll_1_b x _ f cap (q x) W (by rw [hb.cell (by simp)]; exact hc) hf (hq _ x (hbel.trans (hb.mono (by simp))) hx))
  have HCF := Lib.hid hcf
  clear hcf hq hf
  go_enter Tryz.func38, Tryz.ntmps38
  go_wp2_with (go_at_call 84; refine HCF.out.mono ?_; rintro e w' ⟨rfl, u⟩)
  go_ret
  have u1 := ‹Below (World.alloc _ _).heap.size _ _›
  exact ⟨ret_bool HALL.out, hbel.trans (u1.mono (by simp))⟩
end Go.Proofs.YtchmakepglaijaaGreat
