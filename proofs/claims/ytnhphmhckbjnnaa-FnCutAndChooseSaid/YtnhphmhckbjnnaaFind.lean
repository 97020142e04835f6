/- Searching slices of integers: the library's Index, IndexFunc and what stands over them; increasing lists. -/
import Derived.Test.YtnhphmhckbjnnaaOwn
namespace Go.Proofs.Ytnhphmhckbjnnaa
open Go.RowKit

theorem enters {P : Program} {f : FuncId} {fn : Func} (hf : P.funcs[f]? = some fn) (hname : (fn.name == "runtime.NumGoroutine") = false) (hb : fn.body.isSome = true) (args : Array Value) (w : World) :
    (callFunc f args).run P w = .ok (.enter f args) w := by
  have h1 : fn.name ≠ "runtime.NumGoroutine" := by simpa using hname
  obtain ⟨c, hc⟩ := Option.isSome_iff_exists.1 hb
  simp [callFunc, hf, h1, hc]

theorem any_hit (l : List Int) (q : Int → Bool) (k : Nat) (h : k < l.length) (hq : q (l.getD k 0) = true) : l.any q = true := by
  rw [List.any_eq_true]; exact ⟨_, getD_mem l k h, hq⟩
theorem any_miss (l : List Int) (q : Int → Bool) (h : ∀ i, i < l.length → q (l.getD i 0) = false) : l.any q = false := by
  rw [List.any_eq_false]; intro x hx; obtain ⟨k, hk, rfl⟩ := mem_getD l x hx; rw [h k hk]; simp

set_option maxHeartbeats 400000 in
theorem IndexFunc_any (a : Option Addr) (n c : Nat) (l : List Int) (f : Nat) (cap : Array Value) (q : Int → Bool) (w : World) (h : Ints w a n c l)
    (hf : ∀ args W, (callFunc f args).run Try.prog W = .ok (.enter f args) W)
    (hq : ∀ W x, Below w.heap.size w W → x ∈ l → Calls Try.prog f (#[.int .i64 x] ++ cap) W fun e w' => e = .returned (.bool (q x)) ∧ ∃ m, w' = W.drewN m) :
    Calls Try.prog 68 #[.slice a n c, .func (.func f) #[] cap] w fun e w' => ∃ i : Int, e = .returned (.int .i64 i) ∧ Hid (decide (0 ≤ i) = l.any q) ∧ ∃ m, w' = w.drewN m := by
  have hn := h.le
  have HQ := Lib.hid hq
  clear hq
  go_enter Try.func68, Try.ntmps68
  go_wp2
  go_loopw [8] (fun v wr => ∃ k : Nat, k ≤ n ∧ v = .int .i64 k ∧ (∀ i, i < k → q (l.getD i 0) = false) ∧ ∃ m, wr = w.drewN m) (fun v _ => n - (intOf v).toNat)
  case atStart => exact ⟨0, Nat.zero_le _, rfl, fun i hi => absurd hi (by omega), 0, rfl⟩
  case round =>
    obtain ⟨k, hk, rfl, hj, m, rfl⟩ := hrel
    have HJ := Lib.hid hj
    clear hj
    by_cases hlt : k < n
    · obtain ⟨g, o, rfl, hcell⟩ := h.at k hlt
      have HC := Lib.hid (HQ.out (w.drewN m) (l.getD k 0) (below_of_drewN m) (getD_mem l k (by rw [← h.len]; exact hlt)))
      cases hb : q (l.getD k 0)
      · rw [hb] at HC
        have HB := Lib.hid hb
        clear hb
        go_wp2_with (refine HC.out.mono ?_; rintro e w' ⟨rfl, m', rfl⟩)
        go_roundw
        case rel => exact ⟨k + 1, by omega, by go_num, fun i hi => by
          by_cases e : i = k
          · subst e; exact HB.out
          · exact HJ.out i (by omega), _, rfl⟩
        case measure => simp [intOf]; omega
      · rw [hb] at HC
        have HB := Lib.hid (any_hit l q k (by rw [← h.len]; exact hlt) hb)
        clear hb
        go_wp2_with (refine HC.out.mono ?_; rintro e w' ⟨rfl, m', rfl⟩)
        go_ret
        exact ⟨k, rfl, by unfold Hid; rw [HB.out]; simp, _, rfl⟩
    · have HB := Lib.hid (any_miss l q (fun i hi => HJ.out i (by have := h.len; omega)))
      go_wp2
      go_ret
      exact ⟨-1, rfl, by unfold Hid; rw [HB.out]; decide, _, rfl⟩
set_option maxHeartbeats 400000 in
theorem ContainsFunc_any (a : Option Addr) (n c : Nat) (l : List Int) (f : Nat) (cap : Array Value) (q : Int → Bool) (w : World) (h : Ints w a n c l)
    (hf : ∀ args W, (callFunc f args).run Try.prog W = .ok (.enter f args) W)
    (hq : ∀ W x, Below w.heap.size w W → x ∈ l → Calls Try.prog f (#[.int .i64 x] ++ cap) W fun e w' => e = .returned (.bool (q x)) ∧ ∃ m, w' = W.drewN m) :
    Calls Try.prog 44 #[.slice a n c, .func (.func f) #[] cap] w fun e w' => e = .returned (.bool (l.any q)) ∧ ∃ m, w' = w.drewN m := by
  have HF := Lib.hid hf
  have HQ := Lib.hid hq
  clear hf hq
  go_enter Try.func44, Try.ntmps44
  go_wp2_with (go_at_call 68; refine (IndexFunc_any _ _ _ l _ _ q _ h HF.out HQ.out).mono ?_; rintro e w' ⟨i, rfl, hi, m, rfl⟩)
  go_ret
  exact ⟨ret_bool (by assumption), _, rfl⟩
set_option maxHeartbeats 400000 in
theorem Index_any (a : Option Addr) (n c : Nat) (l : List Int) (x : Int) (w : World) (h : Ints w a n c l) :
    Calls Try.prog 69 #[.slice a n c, .int .i64 x] w fun e w' => ∃ i : Int, e = .returned (.int .i64 i) ∧ Hid (decide (0 ≤ i) = l.any (· == x)) ∧ ∃ m, w' = w.drewN m := by
  have hn := h.le
  go_enter Try.func69, Try.ntmps69
  go_wp2
  go_loop [8] (fun v => ∃ k : Nat, k ≤ n ∧ v = .int .i64 k ∧ (∀ i, i < k → (l.getD i 0 == x) = false)) (fun v => n - (intOf v).toNat)
  case atStart => exact ⟨0, Nat.zero_le _, rfl, fun i hi => absurd hi (by omega)⟩
  case round =>
    obtain ⟨k, hk, rfl, hj⟩ := hrel
    have HJ := Lib.hid hj
    clear hj
    by_cases hlt : k < n
    · obtain ⟨g, o, rfl, hcell⟩ := h.at k hlt
      obtain ⟨y, hy⟩ : ∃ y, y = l.getD k 0 := ⟨_, rfl⟩
      rw [← hy] at hcell
      have HY := Lib.hid hy
      clear hy
      by_cases hxy : y = x
      · have HB := Lib.hid (any_hit l (· == x) k (by rw [← h.len]; exact hlt) (by rw [← HY.out]; simp [hxy]))
        have hb : ((x == y) : Bool) = true := by simp [hxy]
        clear hxy
        go_wp2
        go_ret
        exact ⟨k, rfl, by unfold Hid; rw [HB.out]; simp, 0, rfl⟩
      · have hb : ((x == y) : Bool) = false := by simp; omega
        have HB := Lib.hid (show (l.getD k 0 == x) = false by rw [← HY.out]; simp [hxy])
        clear hxy
        go_wp2
        go_round
        case rel => exact ⟨k + 1, by omega, by go_num, fun i hi => by
          by_cases e : i = k
          · subst e; exact HB.out
          · exact HJ.out i (by omega)⟩
        case measure => simp [intOf]; omega
    · have HB := Lib.hid (any_miss l (· == x) (fun i hi => HJ.out i (by have := h.len; omega)))
      go_wp2
      go_ret
      exact ⟨-1, rfl, by unfold Hid; rw [HB.out]; decide, 0, rfl⟩
set_option maxHeartbeats 400000 in
theorem Contains_any (a : Option Addr) (n c : Nat) (l : List Int) (x : Int) (w : World) (h : Ints w a n c l) :
    Calls Try.prog 46 #[.slice a n c, .int .i64 x] w fun e w' => e = .returned (.bool (l.any (· == x))) ∧ ∃ m, w' = w.drewN m := by
  go_enter Try.func46, Try.ntmps46
  go_wp2_with (go_at_call 69; refine (Index_any _ _ _ l _ _ h).mono ?_; rintro e w' ⟨i, rfl, hi, m, rfl⟩)
  go_ret
  exact ⟨ret_bool (by assumption), _, rfl⟩
set_option maxHeartbeats 400000 in
theorem l1Has_any (a : Option Addr) (n c : Nat) (l : List Int) (x : Int) (w : World) (h : Ints w a n c l) :
    Calls Try.prog 48 #[.slice a n c, .int .i64 x] w fun e w' => e = .returned (.bool (l.any (· == x))) ∧ ∃ m, w' = w.drewN m := by
  have hn := h.le
  go_enter Try.func48, Try.ntmps48
  go_wp2
  go_loop [9] (fun v => ∃ k : Nat, k ≤ n ∧ v = .int .i64 k ∧ (∀ i, i < k → (l.getD i 0 == x) = false)) (fun v => n - (intOf v).toNat)
  case atStart => exact ⟨0, Nat.zero_le _, rfl, fun i hi => absurd hi (by omega)⟩
  case round =>
    obtain ⟨k, hk, rfl, hj⟩ := hrel
    have HJ := Lib.hid hj
    clear hj
    by_cases hlt : k < n
    · obtain ⟨g, o, rfl, hcell⟩ := h.at k hlt
      obtain ⟨y, hy⟩ : ∃ y, y = l.getD k 0 := ⟨_, rfl⟩
      rw [← hy] at hcell
      have HY := Lib.hid hy
      clear hy
      by_cases hxy : y = x
      · have HB := Lib.hid (any_hit l (· == x) k (by rw [← h.len]; exact hlt) (by rw [← HY.out]; simp [hxy]))
        have hb : ((y == x) : Bool) = true := by simp [hxy]
        clear hxy
        go_wp2
        go_ret
        exact ⟨ret_bool HB.out.symm, 0, rfl⟩
      · have hb : ((y == x) : Bool) = false := by simp; omega
        have HB := Lib.hid (show (l.getD k 0 == x) = false by rw [← HY.out]; simp [hxy])
        clear hxy
        go_wp2
        go_round
        case rel => exact ⟨k + 1, by omega, by go_num, fun i hi => by
          by_cases e : i = k
          · subst e; exact HB.out
          · exact HJ.out i (by omega)⟩
        case measure => simp [intOf]; omega
    · have HB := Lib.hid (any_miss l (· == x) (fun i hi => HJ.out i (by have := h.len; omega)))
      go_wp2
      go_ret
      exact ⟨ret_bool HB.out.symm, 0, rfl⟩
/-- Strictly increasing numbers of a range. -/
def risB (l : List Int) (lo hi : Int) : Bool := decide (∀ i : Nat, i < l.length → (lo ≤ l.getD i 0 ∧ l.getD i 0 ≤ hi) ∧ (0 < i → l.getD (i - 1) 0 < l.getD i 0))
theorem risB_no (l : List Int) (lo hi : Int) (i : Nat) (h : i < l.length) (hx : ¬ ((lo ≤ l.getD i 0 ∧ l.getD i 0 ≤ hi) ∧ (0 < i → l.getD (i - 1) 0 < l.getD i 0))) : risB l lo hi = false := by
  unfold risB; rw [decide_eq_false_iff_not]; intro H; exact hx (H i h)
theorem risB_yes (l : List Int) (lo hi : Int) (h : ∀ i : Nat, i < l.length → (lo ≤ l.getD i 0 ∧ l.getD i 0 ≤ hi) ∧ (0 < i → l.getD (i - 1) 0 < l.getD i 0)) : risB l lo hi = true := by
  unfold risB; rw [decide_eq_true_eq]; exact h
set_option maxHeartbeats 1000000 in
theorem l1Rising_any (a : Option Addr) (n c : Nat) (l : List Int) (lo hi : Int) (w : World) (h : Ints w a n c l) :
    Calls Try.prog 47 #[.slice a n c, .int .i64 lo, .int .i64 hi] w fun e w' => e = .returned (.bool (risB l lo hi)) ∧ ∃ m, w' = w.drewN m := by
  have hn := h.le
  go_enter Try.func47, Try.ntmps47
  go_wp2
  go_loop [11] (fun v => ∃ k : Nat, k ≤ n ∧ v = .int .i64 k ∧ (∀ i, i < k → (lo ≤ l.getD i 0 ∧ l.getD i 0 ≤ hi) ∧ (0 < i → l.getD (i - 1) 0 < l.getD i 0))) (fun v => n - (intOf v).toNat)
  case atStart => exact ⟨0, Nat.zero_le _, rfl, fun i hi => absurd hi (by omega)⟩
  case round =>
    obtain ⟨k, hk, rfl, hj⟩ := hrel
    have HJ := Lib.hid hj
    clear hj
    by_cases hlt : k < n
    · obtain ⟨g, o, rfl, hcell⟩ := h.at k hlt
      have hkl : k < l.length := by rw [← h.len]; exact hlt
      obtain ⟨x, hx⟩ : ∃ x, x = l.getD k 0 := ⟨_, rfl⟩
      rw [← hx] at hcell
      have HX := Lib.hid hx
      clear hx
      by_cases h1 : lo ≤ x
      · by_cases h2 : x ≤ hi
        · by_cases h0 : k = 0
          · subst h0
            simp only [Nat.add_zero] at hcell
            go_wp2
            go_round
            case rel => exact ⟨1, by omega, by first | rfl | go_num, fun i hi => by
              obtain rfl : i = 0 := by omega
              rw [← HX.out]; exact ⟨⟨h1, h2⟩, fun h => absurd h (by omega)⟩⟩
            case measure => simp [intOf]; omega
          · have hp : (0 : Int) < k := by omega
            obtain ⟨g2, o2, hg2, hcell2⟩ := h.at (k - 1) (by omega)
            simp only [Option.some.injEq, Addr.mk.injEq, and_true] at hg2
            obtain ⟨rfl, rfl⟩ := hg2
            obtain ⟨y, hy⟩ : ∃ y, y = l.getD (k - 1) 0 := ⟨_, rfl⟩
            rw [← hy] at hcell2
            have HY := Lib.hid hy
            clear hy
            have hk1 : ((k : Int) - 1).toNat = k - 1 := by omega
            by_cases h3 : y < x
            · have hb : decide (x ≤ y) = false := by simp; omega
              go_wp2
              go_round
              case rel => exact ⟨k + 1, by omega, by go_num, fun i hi => by
                by_cases e : i = k
                · subst e; rw [← HX.out, ← HY.out]; exact ⟨⟨h1, h2⟩, fun _ => h3⟩
                · exact HJ.out i (by omega)⟩
              case measure => simp [intOf]; omega
            · have HR := Lib.hid (risB_no l lo hi k hkl (by rw [← HX.out, ← HY.out]; omega))
              go_wp2
              go_ret
              exact ⟨ret_bool HR.out.symm, 0, rfl⟩
        · have HR := Lib.hid (risB_no l lo hi k hkl (by rw [← HX.out]; omega))
          have hb : decide (x ≤ hi) = false := by simp; omega
          go_wp2
          go_ret
          exact ⟨ret_bool HR.out.symm, 0, rfl⟩
      · have HR := Lib.hid (risB_no l lo hi k hkl (by rw [← HX.out]; omega))
        have hb : decide (lo ≤ x) = false := by simp; omega
        go_wp2
        go_ret
        exact ⟨ret_bool HR.out.symm, 0, rfl⟩
    · have HR := Lib.hid (risB_yes l lo hi (fun i hi => HJ.out i (by have := h.len; omega)))
      go_wp2
      go_ret
      exact ⟨ret_bool HR.out.symm, 0, rfl⟩
set_option maxHeartbeats 1000000 in
theorem areCopies_any (N : Int) (a : Option Addr) (n c : Nat) (l : List Int) (w : World) (h : Ints w a n c l) (hN : 1 ≤ N) (hN2 : N ≤ 40) :
    Calls Try.prog 43 #[.int .i64 N, .slice a n c] w fun e w' => e = .returned (.bool (risB l 0 (N - 1))) ∧ ∃ m, w' = w.drewN m := by
  have hn := h.le
  go_enter Try.func43, Try.ntmps43
  go_wp2
  go_loop [9] (fun v => ∃ k : Nat, k ≤ n ∧ v = .int .i64 k ∧ (∀ i, i < k → (0 ≤ l.getD i 0 ∧ l.getD i 0 ≤ N - 1) ∧ (0 < i → l.getD (i - 1) 0 < l.getD i 0))) (fun v => n - (intOf v).toNat)
  case atStart => exact ⟨0, Nat.zero_le _, rfl, fun i hi => absurd hi (by omega)⟩
  case round =>
    obtain ⟨k, hk, rfl, hj⟩ := hrel
    have HJ := Lib.hid hj
    clear hj
    by_cases hlt : k < n
    · obtain ⟨g, o, rfl, hcell⟩ := h.at k hlt
      have hkl : k < l.length := by rw [← h.len]; exact hlt
      obtain ⟨x, hx⟩ : ∃ x, x = l.getD k 0 := ⟨_, rfl⟩
      rw [← hx] at hcell
      have HX := Lib.hid hx
      clear hx
      by_cases h1 : 0 ≤ x
      · by_cases h2 : x ≤ N - 1
        · by_cases h0 : k = 0
          · subst h0
            simp only [Nat.add_zero] at hcell
            go_wp2
            go_round
            case rel => exact ⟨1, by omega, by first | rfl | go_num, fun i hi => by
              obtain rfl : i = 0 := by omega
              rw [← HX.out]; exact ⟨⟨h1, h2⟩, fun h => absurd h (by omega)⟩⟩
            case measure => simp [intOf]; omega
          · have hp : (0 : Int) < k := by omega
            obtain ⟨g2, o2, hg2, hcell2⟩ := h.at (k - 1) (by omega)
            simp only [Option.some.injEq, Addr.mk.injEq, and_true] at hg2
            obtain ⟨rfl, rfl⟩ := hg2
            obtain ⟨y, hy⟩ : ∃ y, y = l.getD (k - 1) 0 := ⟨_, rfl⟩
            rw [← hy] at hcell2
            have HY := Lib.hid hy
            clear hy
            have hk1 : ((k : Int) - 1).toNat = k - 1 := by omega
            by_cases h3 : y < x
            · have hb : decide (x ≤ y) = false := by simp; omega
              go_wp2
              go_round
              case rel => exact ⟨k + 1, by omega, by go_num, fun i hi => by
                by_cases e : i = k
                · subst e; rw [← HX.out, ← HY.out]; exact ⟨⟨h1, h2⟩, fun _ => h3⟩
                · exact HJ.out i (by omega)⟩
              case measure => simp [intOf]; omega
            · have HR := Lib.hid (risB_no l 0 (N - 1) k hkl (by rw [← HX.out, ← HY.out]; omega))
              go_wp2
              go_ret
              exact ⟨ret_bool HR.out.symm, 0, rfl⟩
        · have HR := Lib.hid (risB_no l 0 (N - 1) k hkl (by rw [← HX.out]; omega))
          have hb : decide (x ≤ N - 1) = false := by simp; omega
          go_wp2
          go_ret
          exact ⟨ret_bool HR.out.symm, 0, rfl⟩
      · have HR := Lib.hid (risB_no l 0 (N - 1) k hkl (by rw [← HX.out]; omega))
        have hb : decide (0 ≤ x) = false := by simp; omega
        go_wp2
        go_ret
        exact ⟨ret_bool HR.out.symm, 0, rfl⟩
    · have HR := Lib.hid (risB_yes l 0 (N - 1) (fun i hi => HJ.out i (by have := h.len; omega)))
      go_wp2
      go_ret
      exact ⟨ret_bool HR.out.symm, 0, rfl⟩
end Go.Proofs.Ytnhphmhckbjnnaa
