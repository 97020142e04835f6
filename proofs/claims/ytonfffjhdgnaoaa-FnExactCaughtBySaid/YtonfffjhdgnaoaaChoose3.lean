/- Cut and choose: caught copies, majorities; the laws over them. -/
import Derived.Test.YtonfffjhdgnaoaaFind
import Derived.Test.YtonfffjhdgnaoaaChoose2
import Derived.Deep.RegionWith
namespace Go.Proofs.Ytonfffjhdgnaoaa
open Go.RowKit

def caughtB (n : Int) (l l' : List Int) : Bool := decide (1 ≤ n ∧ n ≤ 40) && (risB l 0 (n - 1) && risB l' 0 (n - 1))
def caughtV (n : Int) (l l' : List Int) : Bool := caughtB n l l' && l.any fun k => l'.any (· == k)
theorem caughtB_out (n : Int) (l l' : List Int) (h : ¬ (1 ≤ n ∧ n ≤ 40)) : caughtB n l l' = false := by unfold caughtB; simp [h]
theorem caughtB_in (n : Int) (l l' : List Int) (h1 : 1 ≤ n) (h2 : n ≤ 40) : caughtB n l l' = (risB l 0 (n - 1) && risB l' 0 (n - 1)) := by unfold caughtB; simp [h1, h2]

set_option maxHeartbeats 1000000 in
theorem spec_CaughtBy_any (N : Int) (a : Option Addr) (n c : Nat) (l : List Int) (a' : Option Addr) (n' c' : Nat) (l' : List Int) (w : World) (h : Ints w a n c l) (h' : Ints w a' n' c' l') :
    Calls Try.prog 36 #[.int .i64 N, .slice a n c, .slice a' n' c'] w fun e w' => e = .returned (.tuple #[.bool (caughtV N l l'), .bool (caughtB N l l')]) ∧ ∃ m, w' = w.drewN m := by
  have hn := h.le
  unfold caughtV
  by_cases h1 : 1 ≤ N
  · by_cases h2 : N ≤ 40
    · rw [caughtB_in N l l' h1 h2]
      cases r1 : risB l 0 (N - 1)
      · simp only [Bool.false_and]
        go_enter Try.func36, Try.ntmps36
        go_wp2_with (first | (go_at_call 62; refine (l1Rising_any _ _ _ l _ _ _ h).mono ?_; rintro e w' ⟨rfl, m, rfl⟩) | go_in)
        go_ret2
        exact ⟨rfl, _, rfl⟩
      · cases r2 : risB l' 0 (N - 1)
        · simp only [Bool.and_false, Bool.false_and]
          go_enter Try.func36, Try.ntmps36
          go_wp2_with (first | (go_at_call_of 62 (Value.slice a n c); refine (l1Rising_any _ _ _ l _ _ _ h).mono ?_; rintro e w' ⟨rfl, m, rfl⟩) | (go_at_call_of 62 (Value.slice a' n' c'); refine (l1Rising_any _ _ _ l' _ _ _ (by exact h'.drewN _)).mono ?_; rintro e w' ⟨rfl, m, rfl⟩) | go_in)
          go_ret2
          exact ⟨rfl, _, rfl⟩
        · simp only [Bool.and_true, Bool.true_and]
          have hn' := h'.le
          go_enter Try.func36, Try.ntmps36
          go_wp2_with (first | (go_at_call_of 62 (Value.slice a n c); refine (l1Rising_any _ _ _ l _ _ _ h).mono ?_; rintro e w' ⟨rfl, m, rfl⟩) | (go_at_call_of 62 (Value.slice a' n' c'); refine (l1Rising_any _ _ _ l' _ _ _ (by exact h'.drewN _)).mono ?_; rintro e w' ⟨rfl, m, rfl⟩) | go_in)
          rename_i m1 m2
          go_loopw [29] (fun v wr => ∃ k : Nat, k ≤ n ∧ v = .int .i64 k ∧ (∀ i, i < k → (l'.any (· == l.getD i 0)) = false) ∧ ∃ m, wr = w.drewN m) (fun v _ => n - (intOf v).toNat)
          case atStart => exact ⟨0, Nat.zero_le _, rfl, fun i hi => absurd hi (by omega), _, rfl⟩
          case round =>
            obtain ⟨k, hk, rfl, hj, m, rfl⟩ := hrel
            have HJ := Lib.hid hj
            clear hj
            by_cases hlt : k < n
            · obtain ⟨g, o, rfl, hcell⟩ := h.at k hlt
              obtain ⟨x, hx⟩ : ∃ x, x = l.getD k 0 := ⟨_, rfl⟩
              rw [← hx] at hcell
              have HX := Lib.hid hx
              clear hx
              cases hb : l'.any (· == x)
              · go_wp2_with (go_at_call 63; refine (l1Has_any _ _ _ l' _ _ (by exact h'.drewN _)).mono ?_; rintro e w' ⟨rfl, m', rfl⟩)
                go_roundw
                case rel => exact ⟨k + 1, by omega, by go_num, fun i hi => by
                  by_cases e : i = k
                  · subst e; rw [← HX.out]; exact hb
                  · exact HJ.out i (by omega), _, rfl⟩
                case measure => simp [intOf]; omega
              · have HB := Lib.hid (any_hit l (fun x => l'.any (· == x)) k (by rw [← h.len]; exact hlt) (by rw [← HX.out]; exact hb))
                go_wp2_with (go_at_call 63; refine (l1Has_any _ _ _ l' _ _ (by exact h'.drewN _)).mono ?_; rintro e w' ⟨rfl, m', rfl⟩)
                go_ret2
                exact ⟨ret_2 (v_bool HB.out.symm) rfl, _, rfl⟩
            · have HB := Lib.hid (any_miss l (fun x => l'.any (· == x)) (fun i hi => HJ.out i (by have := h.len; omega)))
              go_wp2
              go_ret2
              exact ⟨ret_2 (v_bool HB.out.symm) rfl, _, rfl⟩
    · rw [caughtB_out _ _ _ (by omega)]
      simp only [Bool.false_and]
      go_enter Try.func36, Try.ntmps36
      go_wp2
      go_ret2
      exact ⟨rfl, 0, rfl⟩
  · rw [caughtB_out _ _ _ (by omega)]
    simp only [Bool.false_and]
    go_enter Try.func36, Try.ntmps36
    go_wp2
    go_ret2
    exact ⟨rfl, 0, rfl⟩
set_option maxHeartbeats 400000 in
theorem CaughtBy_1_any (x : Int) (p : Addr) (a' : Option Addr) (n' c' : Nat) (l' : List Int) (w : World) (hp : w.cell? p = some (.slice a' n' c')) (h' : Ints w a' n' c' l') :
    Calls Try.prog 66 #[.int .i64 x, .pointer (some p)] w fun e w' => e = .returned (.bool (l'.any (· == x))) ∧ ∃ m, w' = w.drewN m := by
  go_enter Try.func66, Try.ntmps66
  go_wp2_with (go_at_call 67; refine (Contains_any _ _ _ l' _ _ h').mono ?_; rintro e w' ⟨rfl, m', rfl⟩)
  go_ret
  exact ⟨rfl, _, rfl⟩
theorem CaughtBy_1_enters (args : Array Value) (W : World) : (callFunc 66 args).run Try.prog W = .ok (.enter 66 args) W :=
  enters Try.func66 (by kernel_rfl) (by kernel_rfl) args W
set_option maxHeartbeats 1000000 in
theorem CaughtBy_any (N : Int) (a : Option Addr) (n c : Nat) (l : List Int) (a' : Option Addr) (n' c' : Nat) (l' : List Int) (w : World) (h : Ints w a n c l) (h' : Ints w a' n' c' l') :
    Calls Try.prog 37 #[.int .i64 N, .slice a n c, .slice a' n' c'] w fun e w' => e = .returned (.tuple #[.bool (caughtV N l l'), .bool (caughtB N l l')]) ∧ Below w.heap.size w w' := by
  have hn := h.le
  have hal := h.alloc (.cells #[.slice a' n' c'] 29)
  have hal' := h'.alloc (.cells #[.slice a' n' c'] 29)
  have hbel : Below w.heap.size w (w.alloc (.cells #[.slice a' n' c'] 29)) := (Below.refl _ _).alloc (Nat.le_refl _) _
  have hp : (w.alloc (.cells #[.slice a' n' c'] 29)).cell? ⟨w.heap.size, 0, none⟩ = some (.slice a' n' c') := cell_new _ _ _
  unfold caughtV
  by_cases h1 : 1 ≤ N
  · by_cases h2 : N ≤ 40
    · rw [caughtB_in N l l' h1 h2]
      cases r1 : risB l 0 (N - 1)
      · simp only [Bool.false_and]
        go_enter Try.func37, Try.ntmps37
        go_wp2_with (first | (go_at_call 64; refine (areCopies_any _ _ _ _ l _ hal h1 h2).mono ?_; rintro e w' ⟨rfl, m, rfl⟩) | go_in)
        go_ret2
        exact ⟨rfl, below_drewN hbel _⟩
      · cases r2 : risB l' 0 (N - 1)
        · simp only [Bool.and_false, Bool.false_and]
          go_enter Try.func37, Try.ntmps37
          go_wp2_with (first | (go_at_call_of 64 (Value.slice a n c); refine (areCopies_any _ _ _ _ l _ hal h1 h2).mono ?_; rintro e w' ⟨rfl, m, rfl⟩) | (go_at_call_of 64 (Value.slice a' n' c'); refine (areCopies_any _ _ _ _ l' _ (by exact hal'.drewN _) h1 h2).mono ?_; rintro e w' ⟨rfl, m, rfl⟩) | go_in)
          go_ret2
          exact ⟨rfl, below_drewN hbel _⟩
        · simp only [Bool.and_true, Bool.true_and]
          have hcf := fun (m : Nat) => ContainsFunc_any a n c l 66 #[.pointer (some ⟨w.heap.size, 0, none⟩)] (fun k => l'.any (· == k)) ((w.alloc (.cells #[.slice a' n' c'] 29)).drewN m) (hal.drewN m) CaughtBy_1_enters
            (fun W x hb _ => CaughtBy_1_any x _ a' n' c' l' W (by rw [hb.cell (by simp)]; exact hp) ((hal'.drewN _).below hb))
          have HCF := Lib.hid hcf
          clear hcf
          go_enter Try.func37, Try.ntmps37
          go_wp2_with (first | (go_at_call_of 64 (Value.slice a n c); refine (areCopies_any _ _ _ _ l _ hal h1 h2).mono ?_; rintro e w' ⟨rfl, m, rfl⟩) | (go_at_call_of 64 (Value.slice a' n' c'); refine (areCopies_any _ _ _ _ l' _ (by exact hal'.drewN _) h1 h2).mono ?_; rintro e w' ⟨rfl, m, rfl⟩) | (go_at_call 65; refine (HCF.out _).mono ?_; rintro e w' ⟨rfl, m, rfl⟩) | go_in)
          go_ret2
          exact ⟨rfl, below_drewN hbel _⟩
    · rw [caughtB_out _ _ _ (by omega)]
      simp only [Bool.false_and]
      go_enter Try.func37, Try.ntmps37
      go_wp2
      go_ret2
      exact ⟨rfl, hbel⟩
  · rw [caughtB_out _ _ _ (by omega)]
    simp only [Bool.false_and]
    go_enter Try.func37, Try.ntmps37
    go_wp2
    go_ret2
    exact ⟨rfl, hbel⟩
set_option maxHeartbeats 2000000 in
theorem FnExactCaughtBy_walk (a0 : Int) (a1 : Option Addr) (n1 c1 : Nat) (l1 : List Int) (a2 : Option Addr) (n2 c2 : Nat) (l2 : List Int) (w : World) (_w0 : -9223372036854775808 ≤ a0 ∧ a0 ≤ 9223372036854775807) (z1 : Ints w a1 n1 c1 l1) (_wf1 : Wf l1) (z2 : Ints w a2 n2 c2 l2) (_wf2 : Wf l2) :
    Calls Try.prog 12 #[.int .i64 a0, .slice a1 n1 c1, .slice a2 n2 c2] w fun e w' => e = .returned (.bool true) ∧ Below w.heap.size w w' := by
  by_cases hs1 : n1 ≤ 1048576
  · skip
    by_cases hs2 : n2 ≤ 1048576
    · skip
      go_enter Try.func12, Try.ntmps12
      go_wp2_with fail
      refine (toIntS_any _ _ _ l1 _ z1 hs1).mono ?_
      rintro e w1' ⟨y_a1, y_c1, rfl, y1, u1⟩
      replace z1 := z1.below u1
      replace z2 := z2.below u1
      have V1 := u1
      clear u1
      go_wp2_with fail
      refine (toIntS_any _ _ _ l2 _ z2 hs2).mono ?_
      rintro e w2' ⟨y_a2, y_c2, rfl, y2, u2⟩
      replace z1 := z1.below u2
      replace z2 := z2.below u2
      replace y1 := y1.below u2
      have V2 : Below w.heap.size w w2' := V1.trans (u2.mono V1.size)
      clear V1
      clear u2
      go_wp2_with fail
      refine (spec_CaughtBy_any _ _ _ _ l1 _ _ _ l2 _ y1.ints y2.ints).mono ?_
      rintro e w3' ⟨rfl, q3⟩
      have u3 := below_of_quiet q3
      clear q3
      replace z1 := z1.below u3
      replace z2 := z2.below u3
      replace y1 := y1.below u3
      replace y2 := y2.below u3
      have V3 : Below w.heap.size w w3' := V2.trans (u3.mono V2.size)
      clear V2
      clear u3
      clear y1
      clear y2
      go_wp2_with fail
      refine (toIntS_any _ _ _ l1 _ z1 hs1).mono ?_
      rintro e w4' ⟨x_a1, x_c1, rfl, x1, u4⟩
      replace z1 := z1.below u4
      replace z2 := z2.below u4
      have V4 : Below w.heap.size w w4' := V3.trans (u4.mono V3.size)
      clear V3
      clear u4
      go_wp2_with fail
      refine (toIntS_any _ _ _ l2 _ z2 hs2).mono ?_
      rintro e w5' ⟨x_a2, x_c2, rfl, x2, u5⟩
      replace z1 := z1.below u5
      replace z2 := z2.below u5
      replace x1 := x1.below u5
      have V5 : Below w.heap.size w w5' := V4.trans (u5.mono V4.size)
      clear V4
      clear u5
      go_wp2_with fail
      refine (CaughtBy_any _ _ _ _ l1 _ _ _ l2 _ x1.ints x2.ints).mono ?_
      rintro e w6' ⟨rfl, u6⟩
      replace z1 := z1.below u6
      replace z2 := z2.below u6
      replace x1 := x1.below u6
      replace x2 := x2.below u6
      have V6 : Below w.heap.size w w6' := V5.trans (u6.mono V5.size)
      clear V5
      clear u6
      go_wp2_with fail
      refine (toIntS_any _ _ _ l1 _ z1 hs1).mono ?_
      rintro e w7' ⟨t_a1, t_c1, rfl, t1, u7⟩
      replace z1 := z1.below u7
      replace z2 := z2.below u7
      replace x1 := x1.below u7
      replace x2 := x2.below u7
      have V7 : Below w.heap.size w w7' := V6.trans (u7.mono V6.size)
      clear V6
      clear u7
      go_wp2_with fail
      refine (eqIntS_same _ _ _ _ _ _ l1 _ x1.ints t1.ints).mono ?_
      rintro e w8' ⟨rfl, q8⟩
      have u8 := below_of_quiet q8
      clear q8
      replace z1 := z1.below u8
      replace z2 := z2.below u8
      replace x1 := x1.below u8
      replace x2 := x2.below u8
      replace t1 := t1.below u8
      have V8 : Below w.heap.size w w8' := V7.trans (u8.mono V7.size)
      clear V7
      clear u8
      clear t1
      go_wp2_with fail
      refine (toIntS_any _ _ _ l2 _ z2 hs2).mono ?_
      rintro e w9' ⟨t_a2, t_c2, rfl, t2, u9⟩
      replace z1 := z1.below u9
      replace z2 := z2.below u9
      replace x1 := x1.below u9
      replace x2 := x2.below u9
      have V9 : Below w.heap.size w w9' := V8.trans (u9.mono V8.size)
      clear V8
      clear u9
      go_wp2_with fail
      refine (eqIntS_same _ _ _ _ _ _ l2 _ x2.ints t2.ints).mono ?_
      rintro e w10' ⟨rfl, q10⟩
      have u10 := below_of_quiet q10
      clear q10
      replace z1 := z1.below u10
      replace z2 := z2.below u10
      replace x1 := x1.below u10
      replace x2 := x2.below u10
      replace t2 := t2.below u10
      have V10 : Below w.heap.size w w10' := V9.trans (u10.mono V9.size)
      clear V9
      clear u10
      clear t2
      go_wp2
      go_ret
      exact ⟨rfl, V10⟩
    · go_enter Try.func12, Try.ntmps12
      go_wp2
      go_ret
      exact ⟨rfl, Below.refl _ _⟩
  · go_enter Try.func12, Try.ntmps12
    go_wp2
    go_ret
    exact ⟨rfl, Below.refl _ _⟩
end Go.Proofs.Ytonfffjhdgnaoaa
