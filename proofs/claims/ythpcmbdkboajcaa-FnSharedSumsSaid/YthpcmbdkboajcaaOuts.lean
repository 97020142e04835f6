/- The sums of the shares of the outs. -/
import Derived.Test.YthpcmbdkboajcaaWire
namespace Go.Proofs.Ythpcmbdkboajcaa
open Go.RowKit

def pickL (F O : List Int) (k : Nat) : List Int := (List.range k).map fun i => F.getD (O.getD i 0).toNat 0
theorem pickL_succ (F O : List Int) (k : Nat) : pickL F O (k + 1) = pickL F O k ++ [F.getD (O.getD k 0).toNat 0] := by simp [pickL, List.range_succ]
theorem pickL_len (F O : List Int) (k : Nat) : (pickL F O k).length = k := by simp [pickL]
theorem pickL_rng {F O : List Int} {P : Int} {k n : Nat} (hF : ∀ x ∈ F, 0 ≤ x ∧ x ≤ P - 1) (hn : F.length = n) (hO : ∀ x ∈ O, 0 ≤ x ∧ x ≤ (n : Int) - 1) (hk : k ≤ O.length) : ∀ x ∈ pickL F O k, 0 ≤ x ∧ x ≤ P - 1 := fun x hx => by
  obtain ⟨i, hi, rfl⟩ := List.mem_map.1 hx
  have hi' := List.mem_range.1 hi
  have := hO _ (getD_mem O i (by omega))
  exact hF _ (getD_mem F _ (by omega))
def outL (P : Int) (F S O : List Int) (k : Nat) : List Int := (List.range k).map fun i => (F.getD (O.getD i 0).toNat 0 + S.getD (O.getD i 0).toNat 0) % P
theorem outL_succ (P : Int) (F S O : List Int) (k : Nat) : outL P F S O (k + 1) = outL P F S O k ++ [(F.getD (O.getD k 0).toNat 0 + S.getD (O.getD k 0).toNat 0) % P] := by simp [outL, List.range_succ]
theorem outL_len (P : Int) (F S O : List Int) (k : Nat) : (outL P F S O k).length = k := by simp [outL]
theorem ssL_outL (P : Int) (F S O : List Int) (n : Nat) : ssL P 1 (pickL F O n) (pickL S O n) n = outL P F S O n := by
  unfold ssL outL
  apply List.map_congr_left
  intro i hi
  have hi' : i < n := List.mem_range.1 hi
  have e : ∀ X : List Int, (pickL X O n).getD i 0 = X.getD (O.getD i 0).toNat 0 := fun X => by simp [pickL, List.getD, hi']
  rw [e, e, Int.one_mul]
set_option maxHeartbeats 4000000 in
set_option maxRecDepth 100000 in
theorem ciPick_any (a : Option Addr) (n c : Nat) (F : List Int) (oa : Option Addr) (on oc : Nat) (O : List Int) (w : World) (h : Ints w a n c F) (hO : Ints w oa on oc O) (_hn : n ≤ 100000) (hon : on ≤ 100000) (hr : ∀ x ∈ O, 0 ≤ x ∧ x ≤ (n : Int) - 1) :
    Calls Try.prog 103 #[.slice a n c, .slice oa on oc] w fun e w' => ∃ a1 c1, e = .returned (.slice a1 on c1) ∧ Own w' w.heap.size a1 on c1 (pickL F O on) ∧ Below w.heap.size w w' := by
  have HR := Lib.hid hr
  have HL := Lib.hid hO.len
  clear hr
  go_enter Try.func103, Try.ntmps103
  go_wp2
  go_loopw [10, 5] (fun v u wr => ∃ k : Nat, k ≤ on ∧ v = .int .i64 k ∧ Below w.heap.size w wr ∧ ∃ a1 c1, u = .slice a1 k c1 ∧ Own wr w.heap.size a1 k c1 (pickL F O k)) (fun v _ _ => on - (intOf v).toNat)
  case atStart => exact ⟨0, Nat.zero_le _, rfl, Below.refl _ _, _, _, rfl, Own.nil0 _ _ _⟩
  case round =>
    obtain ⟨k, hkn, rfl, hbel, a1, c1, rfl, own⟩ := hrel
    by_cases hlt : k < on
    · have ro := HR.out _ (getD_mem O k (by rw [← HL.out]; exact hlt))
      have HS := Lib.hid (pickL_succ F O k)
      obtain ⟨g, o, rfl, e0⟩ := (hO.below hbel).at k hlt
      generalize O.getD k 0 = q at *
      obtain ⟨j, rfl⟩ : ∃ j : Nat, q = j := ⟨q.toNat, by omega⟩
      simp only [Int.toNat_natCast] at HS
      have hj : j < n := by omega
      obtain ⟨g', o', rfl, e1⟩ := (h.below hbel).at j hj
      generalize F.getD j 0 = x at *
      go_wp2_with (at_builtin; refine wpList_appI _ rfl _ _ rfl w.heap.size a1 k c1 (pickL F O k) rfl (own.alloc _) _ 1 1 [x] rfl (Ints.lit1 _ _ _) (by omega) (by have := hbel.size; simp; omega) ?_)
      intro a5 c5 w3 o5 u5 _
      rw [← HS.out] at o5
      have b3 := (hbel.alloc hbel.size _).trans u5
      clear u5 hbel own e0 e1
      go_wp2
      go_roundw
      case rel => exact ⟨k + 1, by omega, by go_num, b3, a5, c5, rfl, o5⟩
      case measure => simp [intOf]; omega
    · obtain rfl : k = on := by omega
      go_wp2
      go_ret
      exact ⟨_, _, rfl, own, hbel⟩
set_option maxHeartbeats 8000000 in
set_option maxRecDepth 100000 in
theorem outSums_any (P i0 i1 : Int) (ga : Option Addr) (gn gc : Nat) (oa : Option Addr) (on oc : Nat) (O : List Int) (a1 : Option Addr) (n1 c1 : Nat) (F : List Int) (a2 : Option Addr) (n2 c2 : Nat) (S : List Int) (w : World) (hO : Ints w oa on oc O) (h : Ints w a1 n1 c1 F) (h' : Ints w a2 n2 c2 S)
    (hp : 1 ≤ P) (hp2 : P ≤ 1000) (hn : n1 ≤ 100000) (hnn : n1 ≤ n2) (hon : on ≤ 100000) (hr : ∀ x ∈ O, 0 ≤ x ∧ x ≤ (n1 : Int) - 1) (hF : ∀ x ∈ F, 0 ≤ x ∧ x ≤ P - 1) (hS : ∀ x ∈ S, 0 ≤ x ∧ x ≤ P - 1) :
    Calls Try.prog 70 #[.agg #[.int .i64 P, .int .i64 i0, .int .i64 i1, .slice ga gn gc, .slice oa on oc], .slice a1 n1 c1, .slice a2 n2 c2] w fun e w' => ∃ a3 c3, e = .returned (.slice a3 on c3) ∧ Own w' w.heap.size a3 on c3 (outL P F S O on) ∧ Below w.heap.size w w' := by
  have HR := Lib.hid hr
  have HF := Lib.hid hF
  have HSS := Lib.hid hS
  have HL := Lib.hid hO.len
  have HL1 := Lib.hid h.len
  have HL2 := Lib.hid h'.len
  have hle := h'.le
  clear hr hF hS

  go_enter Try.func70, Try.ntmps70
  go_wp2
  refine Exists.elim (Blk.new_ w (b := w.heap.size) rfl 41 #[.int .i64 P, .int .i64 i0, .int .i64 i1, .slice ga gn gc, .slice oa on oc]) (fun w1_a0' q => ?_)
  rw [q.1]; have B_c := q.2.1; have s_w1_a0' := q.2.2.1; have u_w1_a0' := q.2.2.2; clear q
  refine Exists.elim (Blk.new_ w1_a0' (b := w.heap.size + 1) s_w1_a0' 3 #[]) (fun w1' q => ?_)
  rw [q.1]; have B_z := q.2.1; have s_w1' := q.2.2.1; have u_w1' := q.2.2.2; clear q
  replace B_c := (B_c.below u_w1')
  have U := (u_w1_a0'.trans (u_w1'.mono u_w1_a0'.size))
  have S_w1' : w.heap.size + 2 ≤ w1'.heap.size := Nat.le_of_eq s_w1'.symm
  have V_w1' := (Below.refl w.heap.size w).trans (U.mono ((Below.refl w.heap.size w)).size)
  clear u_w1_a0' u_w1' s_w1_a0' s_w1' U
  have e_c_4 : w1'.cell? ⟨w.heap.size, 4, none⟩ = some (.slice oa on oc) := B_c.cell 4
  go_wp2
  clear e_c_4
  clear B_z
  go_loopw [14, 7] (fun v u wr => ∃ k : Nat, k ≤ on ∧ v = .int .i64 k ∧ Below w1'.heap.size w1' wr ∧ ∃ a3 c3, u = .slice a3 k c3 ∧ Own wr w1'.heap.size a3 k c3 (outL P F S O k)) (fun v _ _ => on - (intOf v).toNat)
  case atStart => exact ⟨0, Nat.zero_le _, rfl, Below.refl _ _, _, _, rfl, Own.nil0 _ _ _⟩
  case round =>
    obtain ⟨k, hkn, rfl, hbel, a3, c3, rfl, own⟩ := hrel

    have B_c := B_c.below hbel
    have V_wr := V_w1'.trans (hbel.mono V_w1'.size)
    have S_wr := hbel.size
    by_cases hlt : k < on
    · have ro := HR.out _ (getD_mem O k (by rw [← HL.out]; exact hlt))
      have HX := Lib.hid (outL_succ P F S O k)
      obtain ⟨g, o, rfl, e0⟩ := (hO.below V_wr).at k hlt
      generalize O.getD k 0 = q at *
      obtain ⟨j, rfl⟩ : ∃ j : Nat, q = j := ⟨q.toNat, by omega⟩
      simp only [Int.toNat_natCast] at HX
      have hj : j < n1 := by omega
      have hj2 : j < n2 := by omega
      have r1 := getD_rng HF.out j (by rw [← HL1.out]; exact hj)
      have r2 := getD_rng HSS.out j (by rw [← HL2.out]; exact hj2)
      have hi : (j : Int) < (n1 : Int) := by omega
      have hi2 : (j : Int) < (n2 : Int) := by omega
      obtain ⟨g1, o1, rfl, e1⟩ := (h.below V_wr).at j hj
      obtain ⟨g2, o2, rfl, e2⟩ := (h'.below V_wr).at j hj2
      have k1 := (h.range _ (by omega) rfl).2
      have k2 := (h'.range _ (by omega) rfl).2
      have kw : w.heap.size < w1'.heap.size := by have := S_w1'; omega
      simp only at k1 k2
      generalize F.getD j 0 = x at *
      generalize S.getD j 0 = y at *
      have t1 : IntKind.i64.wrap (x + y) = x + y := IntWalk.i64_in _ (by omega)
      have e_c_0 : wr.cell? ⟨w.heap.size, 0, none⟩ = some (.int .i64 P) := B_c.cell 0
      go_wp2
      go_region_held3 (fun W => W.cell? ⟨(w.heap.size), 0, none⟩ = some (.int .i64 P) ∧ W.cell? ⟨g1, o1 + j, none⟩ = some (.int .i64 x) ∧ W.cell? ⟨g2, o2 + j, none⟩ = some (.int .i64 y))
        (first | exact ⟨keepB u6 kw (keepA _ e_c_0), keepB u6 (Nat.lt_trans k1 kw) (keepA _ e1), keepB u6 (Nat.lt_trans k2 kw) (keepA _ e2)⟩ | exact ⟨keepA _ e_c_0, keepA _ e1, keepA _ e2⟩ | go_keep)
        (first | (go_at_call 59; refine (mod_same _ _ _ hp (by omega)).mono ?_; rintro e w' ⟨rfl, rfl⟩) | (refine step_appI _ (by rfl) _ _ (by rfl) w1'.heap.size a3 k c3 (outL P F S O k) (by rfl) (own.alloc _).drew _ 1 1 [(x + y) % P] (by rfl) (Ints.lit1 _ _ _).drew (by omega) (by have := hbel.size; simp; omega) ?_; intro a6 c6 w5 o6 u6 g6 hold6))
      rw [← HX.out] at o6
      have b3 := (hbel.drew.alloc (by have := hbel.size; simp; omega) _).trans u6
      clear u6 hbel own e1 e2 e0 g6 hold6 t1
      clear e_c_0
      go_wp2
      go_roundw
      case rel => exact ⟨k + 1, by omega, by go_num, b3, a6, c6, rfl, o6⟩
      case measure => simp [intOf]; omega
    · obtain rfl : k = on := by omega
      go_wp2
      go_ret
      exact ⟨_, _, rfl, own.lower (by have := S_w1'; omega), V_wr⟩

end Go.Proofs.Ythpcmbdkboajcaa
