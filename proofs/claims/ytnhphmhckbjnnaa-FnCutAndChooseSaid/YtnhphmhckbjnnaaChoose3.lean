/- Cut and choose: caught copies, majorities; the laws over them. -/
import Derived.Test.YtnhphmhckbjnnaaFind
import Derived.Test.YtnhphmhckbjnnaaChoose2
import Derived.Deep.RegionWith
namespace Go.Proofs.Ytnhphmhckbjnnaa
open Go.RowKit

def caughtB (n : Int) (l l' : List Int) : Bool := decide (1 ≤ n ∧ n ≤ 40) && (risB l 0 (n - 1) && risB l' 0 (n - 1))
def caughtV (n : Int) (l l' : List Int) : Bool := caughtB n l l' && l.any fun k => l'.any (· == k)
theorem caughtB_out (n : Int) (l l' : List Int) (h : ¬ (1 ≤ n ∧ n ≤ 40)) : caughtB n l l' = false := by unfold caughtB; simp [h]
theorem caughtB_in (n : Int) (l l' : List Int) (h1 : 1 ≤ n) (h2 : n ≤ 40) : caughtB n l l' = (risB l 0 (n - 1) && risB l' 0 (n - 1)) := by unfold caughtB; simp [h1, h2]

set_option maxHeartbeats 1000000 in
theorem spec_CaughtBy_any (N : Int) (a : Option Addr) (n c : Nat) (l : List Int) (a' : Option Addr) (n' c' : Nat) (l' : List Int) (w : World) (h : Ints w a n c l) (h' : Ints w a' n' c' l') :
    Calls Try.prog 17 #[.int .i64 N, .slice a n c, .slice a' n' c'] w fun e w' => e = .returned (.tuple #[.bool (caughtV N l l'), .bool (caughtB N l l')]) ∧ ∃ m, w' = w.drewN m := by
  have hn := h.le
  unfold caughtV
  by_cases h1 : 1 ≤ N
  · by_cases h2 : N ≤ 40
    · rw [caughtB_in N l l' h1 h2]
      cases r1 : risB l 0 (N - 1)
      · simp only [Bool.false_and]
        go_enter Try.func17, Try.ntmps17
        go_wp2_with (first | (go_at_call 47; refine (l1Rising_any _ _ _ l _ _ _ h).mono ?_; rintro e w' ⟨rfl, m, rfl⟩) | go_in)
        go_ret2
        exact ⟨rfl, _, rfl⟩
      · cases r2 : risB l' 0 (N - 1)
        · simp only [Bool.and_false, Bool.false_and]
          go_enter Try.func17, Try.ntmps17
          go_wp2_with (first | (go_at_call_of 47 (Value.slice a n c); refine (l1Rising_any _ _ _ l _ _ _ h).mono ?_; rintro e w' ⟨rfl, m, rfl⟩) | (go_at_call_of 47 (Value.slice a' n' c'); refine (l1Rising_any _ _ _ l' _ _ _ (by exact h'.drewN _)).mono ?_; rintro e w' ⟨rfl, m, rfl⟩) | go_in)
          go_ret2
          exact ⟨rfl, _, rfl⟩
        · simp only [Bool.and_true, Bool.true_and]
          have hn' := h'.le
          go_enter Try.func17, Try.ntmps17
          go_wp2_with (first | (go_at_call_of 47 (Value.slice a n c); refine (l1Rising_any _ _ _ l _ _ _ h).mono ?_; rintro e w' ⟨rfl, m, rfl⟩) | (go_at_call_of 47 (Value.slice a' n' c'); refine (l1Rising_any _ _ _ l' _ _ _ (by exact h'.drewN _)).mono ?_; rintro e w' ⟨rfl, m, rfl⟩) | go_in)
          rename_i m1 m2
          go_loopw [29] (fun v wr => ∃ k : Nat, k ≤ n ∧ v = .int .i64 k ∧ (∀ i, i < k → (l'.any (· == l.getD i 0)) = false) ∧ ∃ m, wr = w.drewN m) (fun v _ => n - (intOf v).toNat)
          case atStart => exact ⟨0, Nat.zero_le _, rfl, fun i hi => absurd hi (by omega), _, rfl⟩
          case round =>
            obtain ⟨k, hk, rfl, hj, m, rfl⟩ := hrel
            have HJ := Lib.hid hj
            clear hj
            by_cases hlt : k < n
            · obtain ⟨g, o, rfl, hcell⟩ := h.at k hlt
              obtain ⟨x, hx⟩ : ∃ x, x = l.getD k 0 := ⟨_, rfl⟩
              rw [← hx] at hcell
              have HX := Lib.hid hx
              clear hx
              cases hb : l'.any (· == x)
              · go_wp2_with (go_at_call 48; refine (l1Has_any _ _ _ l' _ _ (by exact h'.drewN _)).mono ?_; rintro e w' ⟨rfl, m', rfl⟩)
                go_roundw
                case rel => exact ⟨k + 1, by omega, by go_num, fun i hi => by
                  by_cases e : i = k
                  · subst e; rw [← HX.out]; exact hb
                  · exact HJ.out i (by omega), _, rfl⟩
                case measure => simp [intOf]; omega
              · have HB := Lib.hid (any_hit l (fun x => l'.any (· == x)) k (by rw [← h.len]; exact hlt) (by rw [← HX.out]; exact hb))
                go_wp2_with (go_at_call 48; refine (l1Has_any _ _ _ l' _ _ (by exact h'.drewN _)).mono ?_; rintro e w' ⟨rfl, m', rfl⟩)
                go_ret2
                exact ⟨ret_2 (v_bool HB.out.symm) rfl, _, rfl⟩
            · have HB := Lib.hid (any_miss l (fun x => l'.any (· == x)) (fun i hi => HJ.out i (by have := h.len; omega)))
              go_wp2
              go_ret2
              exact ⟨ret_2 (v_bool HB.out.symm) rfl, _, rfl⟩
    · rw [caughtB_out _ _ _ (by omega)]
      simp only [Bool.false_and]
      go_enter Try.func17, Try.ntmps17
      go_wp2
      go_ret2
      exact ⟨rfl, 0, rfl⟩
  · rw [caughtB_out _ _ _ (by omega)]
    simp only [Bool.false_and]
    go_enter Try.func17, Try.ntmps17
    go_wp2
    go_ret2
    exact ⟨rfl, 0, rfl⟩
set_option maxHeartbeats 400000 in
theorem CaughtBy_1_any (x : Int) (p : Addr) (a' : Option Addr) (n' c' : Nat) (l' : List Int) (w : World) (hp : w.cell? p = some (.slice a' n' c')) (h' : Ints w a' n' c' l') :
    Calls Try.prog 45 #[.int .i64 x, .pointer (some p)] w fun e w' => e = .returned (.bool (l'.any (· == x))) ∧ ∃ m, w' = w.drewN m := by
  go_enter Try.func45, Try.ntmps45
  go_wp2_with (go_at_call 46; refine (Contains_any _ _ _ l' _ _ h').mono ?_; rintro e w' ⟨rfl, m', rfl⟩)
  go_ret
  exact ⟨rfl, _, rfl⟩
theorem CaughtBy_1_enters (args : Array Value) (W : World) : (callFunc 45 args).run Try.prog W = .ok (.enter 45 args) W :=
  enters Try.func45 (by kernel_rfl) (by kernel_rfl) args W
set_option maxHeartbeats 1000000 in
theorem CaughtBy_any (N : Int) (a : Option Addr) (n c : Nat) (l : List Int) (a' : Option Addr) (n' c' : Nat) (l' : List Int) (w : World) (h : Ints w a n c l) (h' : Ints w a' n' c' l') :
    Calls Try.prog 16 #[.int .i64 N, .slice a n c, .slice a' n' c'] w fun e w' => e = .returned (.tuple #[.bool (caughtV N l l'), .bool (caughtB N l l')]) ∧ Below w.heap.size w w' := by
  have hn := h.le
  have hal := h.alloc (.cells #[.slice a' n' c'] 34)
  have hal' := h'.alloc (.cells #[.slice a' n' c'] 34)
  have hbel : Below w.heap.size w (w.alloc (.cells #[.slice a' n' c'] 34)) := (Below.refl _ _).alloc (Nat.le_refl _) _
  have hp : (w.alloc (.cells #[.slice a' n' c'] 34)).cell? ⟨w.heap.size, 0, none⟩ = some (.slice a' n' c') := cell_new _ _ _
  unfold caughtV
  by_cases h1 : 1 ≤ N
  · by_cases h2 : N ≤ 40
    · rw [caughtB_in N l l' h1 h2]
      cases r1 : risB l 0 (N - 1)
      · simp only [Bool.false_and]
        go_enter Try.func16, Try.ntmps16
        go_wp2_with (first | (go_at_call 43; refine (areCopies_any _ _ _ _ l _ hal h1 h2).mono ?_; rintro e w' ⟨rfl, m, rfl⟩) | go_in)
        go_ret2
        exact ⟨rfl, below_drewN hbel _⟩
      · cases r2 : risB l' 0 (N - 1)
        · simp only [Bool.and_false, Bool.false_and]
          go_enter Try.func16, Try.ntmps16
          go_wp2_with (first | (go_at_call_of 43 (Value.slice a n c); refine (areCopies_any _ _ _ _ l _ hal h1 h2).mono ?_; rintro e w' ⟨rfl, m, rfl⟩) | (go_at_call_of 43 (Value.slice a' n' c'); refine (areCopies_any _ _ _ _ l' _ (by exact hal'.drewN _) h1 h2).mono ?_; rintro e w' ⟨rfl, m, rfl⟩) | go_in)
          go_ret2
          exact ⟨rfl, below_drewN hbel _⟩
        · simp only [Bool.and_true, Bool.true_and]
          have hcf := fun (m : Nat) => ContainsFunc_any a n c l 45 #[.pointer (some ⟨w.heap.size, 0, none⟩)] (fun k => l'.any (· == k)) ((w.alloc (.cells #[.slice a' n' c'] 34)).drewN m) (hal.drewN m) CaughtBy_1_enters
            (fun W x hb _ => CaughtBy_1_any x _ a' n' c' l' W (by rw [hb.cell (by simp)]; exact hp) ((hal'.drewN _).below hb))
          have HCF := Lib.hid hcf
          clear hcf
          go_enter Try.func16, Try.ntmps16
          go_wp2_with (first | (go_at_call_of 43 (Value.slice a n c); refine (areCopies_any _ _ _ _ l _ hal h1 h2).mono ?_; rintro e w' ⟨rfl, m, rfl⟩) | (go_at_call_of 43 (Value.slice a' n' c'); refine (areCopies_any _ _ _ _ l' _ (by exact hal'.drewN _) h1 h2).mono ?_; rintro e w' ⟨rfl, m, rfl⟩) | (go_at_call 44; refine (HCF.out _).mono ?_; rintro e w' ⟨rfl, m, rfl⟩) | go_in)
          go_ret2
          exact ⟨rfl, below_drewN hbel _⟩
    · rw [caughtB_out _ _ _ (by omega)]
      simp only [Bool.false_and]
      go_enter Try.func16, Try.ntmps16
      go_wp2
      go_ret2
      exact ⟨rfl, hbel⟩
  · rw [caughtB_out _ _ _ (by omega)]
    simp only [Bool.false_and]
    go_enter Try.func16, Try.ntmps16
    go_wp2
    go_ret2
    exact ⟨rfl, hbel⟩
end Go.Proofs.Ytnhphmhckbjnnaa
