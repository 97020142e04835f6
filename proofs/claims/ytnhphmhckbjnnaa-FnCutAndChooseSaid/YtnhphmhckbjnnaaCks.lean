/- The set of copies that are checked: contracts of CheckedSet, the program's and the reference's. -/
import Derived.Test.YtnhphmhckbjnnaaSrt
import Derived.Test.YtnhphmhckbjnnaaChoose1
namespace Go.Proofs.Ytnhphmhckbjnnaa
open Go.RowKit

set_option maxHeartbeats 400000 in
theorem ck_isKey (k : Int) (w : World) : Calls Try.prog 50 #[.int .i64 k] w fun e w' => e = .returned (.bool (inB k 0 1000000000)) ∧ w = w' := by
  go_enter Try.func50, Try.ntmps50
  go_wp2_with (go_at_call 31; refine (within_any _ _ _ _).mono ?_; rintro e w' ⟨rfl, rfl⟩)
  go_ret
  exact ⟨rfl, rfl⟩
set_option maxHeartbeats 400000 in
theorem ck_shKey (k : Int) (w : World) : Calls Try.prog 54 #[.int .i64 k] w fun e w' => e = .returned (.bool (inB k 0 1000000000)) ∧ w = w' := by
  go_enter Try.func54, Try.ntmps54
  go_wp2_with (go_at_call 34; refine (l1In_any _ _ _ _).mono ?_; rintro e w' ⟨rfl, rfl⟩)
  go_ret
  exact ⟨rfl, rfl⟩
def ckB (key n t : Int) : Bool := okC n t && inB key 0 1000000000
def ckL (key n t : Int) : List Int := if ckB key n t then putK (ordL [key, 41] n.toNat) t.toNat else []
theorem ckL_len (key n t : Int) : (ckL key n t).length ≤ 1000000 := by
  unfold ckL
  split
  · rename_i h
    unfold ckB at h
    rw [Bool.and_eq_true] at h
    have := okC_range h.1
    have := putK_len (ordL [key, 41] n.toNat) t.toNat
    omega
  · simp
theorem ckL_full {key n t : Int} (h : ckB key n t = true) : (ckL key n t).length = t.toNat := by
  unfold ckL
  rw [if_pos h]
  unfold ckB at h
  rw [Bool.and_eq_true] at h
  have := okC_range h.1
  exact putK_full _ (ordL_nodup _ _) _ (by rw [ordL_len]; omega)
set_option maxHeartbeats 4000000 in
set_option maxRecDepth 100000 in
theorem CheckedSet_any (key n t : Int) (w : World) :
    Calls Try.prog 19 #[.int .i64 key, .int .i64 n, .int .i64 t] w fun e w' => ∃ a n' c, e = .returned (.tuple #[.slice a n' c, .bool (ckB key n t)]) ∧ Own w' w.heap.size a n' c (ckL key n t) ∧ Below w.heap.size w w' := by
  unfold ckL ckB
  cases h1 : okC n t
  · simp only [Bool.false_and, Bool.false_eq_true, if_false]
    go_enter Try.func19, Try.ntmps19
    go_wp2_with (first | (go_at_call 30; refine (isChecked_any _ _ _).mono ?_; rintro e w' ⟨rfl, m, rfl⟩) | (go_at_call 50; refine (ck_isKey _ _).mono ?_; rintro e w' ⟨rfl, rfl⟩))
    go_ret2
    exact ⟨_, _, _, rfl, Own.nil0 _ _ _, below_of_drewN _⟩
  · cases h2 : inB key 0 1000000000
    · simp only [Bool.and_false, Bool.false_eq_true, if_false]
      go_enter Try.func19, Try.ntmps19
      go_wp2_with (first | (go_at_call 30; refine (isChecked_any _ _ _).mono ?_; rintro e w' ⟨rfl, m, rfl⟩) | (go_at_call 50; refine (ck_isKey _ _).mono ?_; rintro e w' ⟨rfl, rfl⟩))
      go_ret2
      exact ⟨_, _, _, rfl, Own.nil0 _ _ _, below_of_drewN _⟩
    · simp only [Bool.and_self, if_true]
      obtain ⟨n1, n2, t1, t2⟩ := okC_range h1
      obtain ⟨k1, k2⟩ := inB_true h2
      obtain ⟨N, rfl⟩ : ∃ N : Nat, n = N := ⟨n.toNat, by omega⟩
      obtain ⟨T, rfl⟩ : ∃ T : Nat, t = T := ⟨t.toNat, by omega⟩
      have hTN : T ≤ N := by omega
      rw [Int.toNat_natCast, Int.toNat_natCast]
      have HS := Lib.hid (putK_sort (ordL [key, 41] N) (ordL_nodup _ _) T (by rw [ordL_len]; exact hTN))
      have HL : Hid ((putK (ordL [key, 41] N) T).length ≤ 1000000) := Lib.hid (by have := putK_len (ordL [key, 41] N) T; omega)
      go_enter Try.func19, Try.ntmps19
      go_wp2_with (first | (go_at_call 30; refine (isChecked_any _ _ _).mono ?_; rintro e w' ⟨rfl, m, rfl⟩) | (go_at_call 50; refine (ck_isKey _ _).mono ?_; rintro e w' ⟨rfl, rfl⟩))
      refine (orderFrom_any _ _ _ [key, 41] N _ (Ints.lit2 _ _ _ _) (by omega) (WB.two (by omega) (by omega)) (by omega) (by omega)).mono ?_; rintro e w1 ⟨a1, c1, rfl, o1, u1⟩
      have v1 : Below w.heap.size w w1 := (below_of_drewN m).trans (below_a1 u1)
      clear u1
      obtain ⟨g, rfl, _⟩ := o1.at 0 (by omega)
      have hc1 := o1.cap
      have i1 := o1.ints.uptop T hTN
      clear o1
      go_wp2_with fail
      refine (Clone_any _ _ _ _ _ i1 (by omega)).mono ?_; rintro e w2 ⟨a2, c2, rfl, o2, u2⟩
      have v2 := v1.trans (u2.mono v1.size)
      have o2 := o2.lower v1.size
      clear u2 v1 i1
      go_wp2_with fail
      refine (Sort_any _ _ _ _ _ _ o2 (by omega)).mono ?_; rintro e w3 ⟨rfl, o3, hg3⟩
      have v3 := v2.trans (below_grownBy hg3 v2.size (fun x h1 h2 => (o2.range x h1 h2).1))
      rw [HS.out] at o3
      clear o2 v2 hg3
      go_wp2
      go_ret2
      exact ⟨_, _, _, rfl, o3, v3⟩
set_option maxHeartbeats 4000000 in
set_option maxRecDepth 100000 in
theorem spec_CheckedSet_any (key n t : Int) (w : World) :
    Calls Try.prog 20 #[.int .i64 key, .int .i64 n, .int .i64 t] w fun e w' => ∃ a n' c, e = .returned (.tuple #[.slice a n' c, .bool (ckB key n t)]) ∧ Own w' w.heap.size a n' c (ckL key n t) ∧ Below w.heap.size w w' := by
  unfold ckL ckB
  cases h1 : okC n t
  · simp only [Bool.false_and, Bool.false_eq_true, if_false]
    cases h2 : inB key 0 1000000000
    · go_enter Try.func20, Try.ntmps20
      go_wp2_with (first | (go_at_call 33; refine (ccCopies_any _ _ _).mono ?_; rintro e w' ⟨rfl, m, rfl⟩) | (go_at_call 54; refine (ck_shKey _ _).mono ?_; rintro e w' ⟨rfl, rfl⟩))
      go_ret2
      exact ⟨_, _, _, rfl, Own.nil0 _ _ _, Below.refl _ _⟩
    · go_enter Try.func20, Try.ntmps20
      go_wp2_with (first | (go_at_call 33; refine (ccCopies_any _ _ _).mono ?_; rintro e w' ⟨rfl, m, rfl⟩) | (go_at_call 54; refine (ck_shKey _ _).mono ?_; rintro e w' ⟨rfl, rfl⟩))
      go_ret2
      exact ⟨_, _, _, rfl, Own.nil0 _ _ _, below_of_drewN _⟩
  · cases h2 : inB key 0 1000000000
    · simp only [Bool.and_false, Bool.false_eq_true, if_false]
      go_enter Try.func20, Try.ntmps20
      go_wp2_with (first | (go_at_call 33; refine (ccCopies_any _ _ _).mono ?_; rintro e w' ⟨rfl, m, rfl⟩) | (go_at_call 54; refine (ck_shKey _ _).mono ?_; rintro e w' ⟨rfl, rfl⟩))
      go_ret2
      exact ⟨_, _, _, rfl, Own.nil0 _ _ _, Below.refl _ _⟩
    · simp only [Bool.and_self, if_true]
      obtain ⟨n1, n2, t1, t2⟩ := okC_range h1
      obtain ⟨k1, k2⟩ := inB_true h2
      obtain ⟨N, rfl⟩ : ∃ N : Nat, n = N := ⟨n.toNat, by omega⟩
      obtain ⟨T, rfl⟩ : ∃ T : Nat, t = T := ⟨t.toNat, by omega⟩
      have hTN : T ≤ N := by omega
      rw [Int.toNat_natCast, Int.toNat_natCast]
      obtain ⟨L, hL⟩ : ∃ L, L = ordL [key, 41] N := ⟨_, rfl⟩
      rw [← hL]
      have HE := Lib.hid hL
      clear hL
      have HL := Lib.hid (fun k => putK_len L k)
      go_enter Try.func20, Try.ntmps20
      go_wp2_with (first | (go_at_call 33; refine (ccCopies_any _ _ _).mono ?_; rintro e w' ⟨rfl, m, rfl⟩) | (go_at_call 54; refine (ck_shKey _ _).mono ?_; rintro e w' ⟨rfl, rfl⟩))
      refine (dgOrder_any _ _ _ [key, 41] N _ (Ints.lit2 _ _ _ _) (by omega) (WB.two (by omega) (by omega)) (by omega) (by omega)).mono ?_; rintro e w1 ⟨a1, c1, rfl, o1, u1⟩
      have v1 : Below w.heap.size w w1 := (below_of_drewN m).trans (below_a1 u1)
      clear u1
      obtain ⟨g, rfl, _⟩ := o1.at 0 (by omega)
      have hc1 := o1.cap
      rw [← HE.out] at o1
      clear HE
      go_wp2
      go_loopw [8, 27] (fun u v wr => ∃ k : Nat, k ≤ T ∧ v = .int .i64 k ∧ Below w.heap.size w wr ∧ Own wr w.heap.size (some ⟨g, 0, none⟩) N c1 L ∧ ∃ a2 n2 c2, u = .slice a2 n2 c2 ∧ Own wr w.heap.size a2 n2 c2 (putK L k)) (fun _ v _ => T - (intOf v).toNat)
      case atStart => exact ⟨0, by omega, rfl, v1, o1.lower (by simp), none, 0, 0, rfl, Own.nil0 _ _ _⟩
      case round =>
        clear o1 v1
        obtain ⟨k, hk, rfl, v1, o1, a2, n2, c2, rfl, o2⟩ := hrel
        by_cases hlt : k < T
        · have HS : Hid (putK L (k + 1) = putL (L.getD k 0) (putK L k)) := Lib.hid rfl
          have hn2 : n2 ≤ 1000000 := by have := o2.len; have := HL.out k; omega
          obtain ⟨g', hg', _, _, hc, _, _⟩ := o1.at k (by omega)
          cases hg'
          generalize L.getD k 0 = x at *
          go_wp2_with fail
          refine (l1Put_any _ _ _ _ _ x _ o2 v1.size hn2).mono ?_; rintro e w3 ⟨a3, n3, c3, rfl, o3, u3⟩
          have o4 := o1.below u3
          have v3 := v1.trans (u3.mono v1.size)
          clear o1 o2 v1 u3
          go_wp2
          go_roundw
          case rel => exact ⟨k + 1, by omega, by go_num, v3, o4, _, _, _, rfl, by rw [HS.out]; exact o3⟩
          case measure => simp [intOf]; omega
        · obtain rfl : k = T := by omega
          go_wp2
          go_ret2
          exact ⟨_, _, _, rfl, o2, v1⟩
set_option maxHeartbeats 2000000 in
set_option maxRecDepth 100000 in
theorem FnExactCheckedSet_walk (a0 : Int) (a1 : Int) (a2 : Int) (w : World) (_w0 : -9223372036854775808 ≤ a0 ∧ a0 ≤ 9223372036854775807) (_w1 : -9223372036854775808 ≤ a1 ∧ a1 ≤ 9223372036854775807) (_w2 : -9223372036854775808 ≤ a2 ∧ a2 ≤ 9223372036854775807) :
    Calls Try.prog 4 #[.int .i64 a0, .int .i64 a1, .int .i64 a2] w fun e w' => e = .returned (.bool true) ∧ Below w.heap.size w w' := by
  go_enter Try.func4, Try.ntmps4
  go_wp2_with fail
  refine (spec_CheckedSet_any _ _ _ _ ).mono ?_
  rintro e w1' ⟨r_a0, r_n0, r_c0, rfl, r0, u1⟩
  have V1 := u1
  clear u1
  have VB_g0 := V1.size
  go_wp2_with fail
  refine (CheckedSet_any _ _ _ _ ).mono ?_
  rintro e w2' ⟨g_a0, g_n0, g_c0, rfl, g0, u2⟩
  have Dr0_g0 := r0.apart g0 (Nat.le_refl _)
  replace r0 := r0.below u2
  have V2 : Below w.heap.size w w2' := V1.trans (u2.mono V1.size)
  clear V1
  clear u2
  go_wp2_with fail
  refine (eqIntS_same _ _ _ _ _ _ _ _ g0.ints r0.ints).mono ?_
  rintro e w3' ⟨rfl, q3⟩
  have u3 := below_of_quiet q3
  clear q3
  replace r0 := r0.below u3
  replace g0 := g0.below u3
  have V3 : Below w.heap.size w w3' := V2.trans (u3.mono V2.size)
  clear V2
  clear u3
  have hlg0 : g_n0 ≤ 1000000 := by rw [g0.len]; exact ckL_len a0 a1 a2
  go_wp2_with fail
  refine (markIntS_any _ _ _ _ _ _ _ g0 (by omega) (by have := hlg0; omega)).mono ?_
  rintro e w4' ⟨rfl, ⟨Lg0, mg0, Ug0⟩, G4⟩
  have HUg0 := Lib.hid Ug0
  clear Ug0
  replace r0 := r0.grown G4 Dr0_g0
  have u4 : Below w.heap.size w3' w4' := below_grownBy G4 V3.size (fun x hc hx => Nat.le_trans VB_g0 (mg0.range x hc hx).1)
  have V4 : Below w.heap.size w w4' := V3.trans u4
  clear V3 u4 G4 g0
  have g0 := mg0
  clear mg0
  go_wp2_with fail
  refine (heldIntS_any _ _ _ _ _ _ g0.ints HUg0.out (by omega) (by have := hlg0; omega)).mono ?_
  rintro e w5' ⟨rfl, q5⟩
  have u5 := below_of_quiet q5
  clear q5
  replace r0 := r0.below u5
  replace g0 := g0.below u5
  have V5 : Below w.heap.size w w5' := V4.trans (u5.mono V4.size)
  clear V4
  clear u5
  go_wp2_with fail
  refine (CheckedSet_any _ _ _ _ ).mono ?_
  rintro e w6' ⟨h_a0, h_n0, h_c0, rfl, h0, u6⟩
  replace r0 := r0.below u6
  replace g0 := g0.below u6
  have V6 : Below w.heap.size w w6' := V5.trans (u6.mono V5.size)
  clear V5
  clear u6
  go_wp2_with fail
  refine (eqIntS_same _ _ _ _ _ _ _ _ h0.ints r0.ints).mono ?_
  rintro e w7' ⟨rfl, q7⟩
  have u7 := below_of_quiet q7
  clear q7
  replace r0 := r0.below u7
  replace g0 := g0.below u7
  replace h0 := h0.below u7
  have V7 : Below w.heap.size w w7' := V6.trans (u7.mono V6.size)
  clear V6
  clear u7
  go_wp2_with fail
  refine (heldIntS_any _ _ _ _ _ _ g0.ints HUg0.out (by omega) (by have := hlg0; omega)).mono ?_
  rintro e w8' ⟨rfl, q8⟩
  have u8 := below_of_quiet q8
  clear q8
  replace r0 := r0.below u8
  replace g0 := g0.below u8
  replace h0 := h0.below u8
  have V8 : Below w.heap.size w w8' := V7.trans (u8.mono V7.size)
  clear V7
  clear u8
  go_wp2
  go_ret
  exact ⟨rfl, V8⟩
end Go.Proofs.Ytnhphmhckbjnnaa
