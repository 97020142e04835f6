/- Searching slices of integers: the library's Index, IndexFunc and what stands over them; increasing lists. -/
import Derived.Test.YthpcmbdkboajcaaOwn
namespace Go.Proofs.Ythpcmbdkboajcaa
open Go.RowKit

theorem enters {P : Program} {f : FuncId} {fn : Func} (hf : P.funcs[f]? = some fn) (hname : (fn.name == "runtime.NumGoroutine") = false) (hb : fn.body.isSome = true) (args : Array Value) (w : World) :
    (callFunc f args).run P w = .ok (.enter f args) w := by
  have h1 : fn.name ≠ "runtime.NumGoroutine" := by simpa using hname
  obtain ⟨c, hc⟩ := Option.isSome_iff_exists.1 hb
  simp [callFunc, hf, h1, hc]

theorem any_hit (l : List Int) (q : Int → Bool) (k : Nat) (h : k < l.length) (hq : q (l.getD k 0) = true) : l.any q = true := by
  rw [List.any_eq_true]; exact ⟨_, getD_mem l k h, hq⟩
theorem any_miss (l : List Int) (q : Int → Bool) (h : ∀ i, i < l.length → q (l.getD i 0) = false) : l.any q = false := by
  rw [List.any_eq_false]; intro x hx; obtain ⟨k, hk, rfl⟩ := mem_getD l x hx; rw [h k hk]; simp

set_option maxHeartbeats 400000 in
theorem IndexFunc_any (a : Option Addr) (n c : Nat) (l : List Int) (f : Nat) (cap : Array Value) (q : Int → Bool) (w : World) (h : Ints w a n c l)
    (hf : ∀ args W, (callFunc f args).run Try.prog W = .ok (.enter f args) W)
    (hq : ∀ W x, Below w.heap.size w W → x ∈ l → Calls Try.prog f (#[.int .i64 x] ++ cap) W fun e w' => e = .returned (.bool (q x)) ∧ ∃ m, w' = W.drewN m) :
    Calls Try.prog 109 #[.slice a n c, .func (.func f) #[] cap] w fun e w' => ∃ i : Int, e = .returned (.int .i64 i) ∧ Hid (decide (0 ≤ i) = l.any q) ∧ ∃ m, w' = w.drewN m := by
  have hn := h.le
  have HQ := Lib.hid hq
  clear hq
  go_enter Try.func109, Try.ntmps109
  go_wp2
  go_loopw [8] (fun v wr => ∃ k : Nat, k ≤ n ∧ v = .int .i64 k ∧ (∀ i, i < k → q (l.getD i 0) = false) ∧ ∃ m, wr = w.drewN m) (fun v _ => n - (intOf v).toNat)
  case atStart => exact ⟨0, Nat.zero_le _, rfl, fun i hi => absurd hi (by omega), 0, rfl⟩
  case round =>
    obtain ⟨k, hk, rfl, hj, m, rfl⟩ := hrel
    have HJ := Lib.hid hj
    clear hj
    by_cases hlt : k < n
    · obtain ⟨g, o, rfl, hcell⟩ := h.at k hlt
      have HC := Lib.hid (HQ.out (w.drewN m) (l.getD k 0) (below_of_drewN m) (getD_mem l k (by rw [← h.len]; exact hlt)))
      cases hb : q (l.getD k 0)
      · rw [hb] at HC
        have HB := Lib.hid hb
        clear hb
        go_wp2_with (refine HC.out.mono ?_; rintro e w' ⟨rfl, m', rfl⟩)
        go_roundw
        case rel => exact ⟨k + 1, by omega, by go_num, fun i hi => by
          by_cases e : i = k
          · subst e; exact HB.out
          · exact HJ.out i (by omega), _, rfl⟩
        case measure => simp [intOf]; omega
      · rw [hb] at HC
        have HB := Lib.hid (any_hit l q k (by rw [← h.len]; exact hlt) hb)
        clear hb
        go_wp2_with (refine HC.out.mono ?_; rintro e w' ⟨rfl, m', rfl⟩)
        go_ret
        exact ⟨k, rfl, by unfold Hid; rw [HB.out]; simp, _, rfl⟩
    · have HB := Lib.hid (any_miss l q (fun i hi => HJ.out i (by have := h.len; omega)))
      go_wp2
      go_ret
      exact ⟨-1, rfl, by unfold Hid; rw [HB.out]; decide, _, rfl⟩
set_option maxHeartbeats 400000 in
theorem ContainsFunc_any (a : Option Addr) (n c : Nat) (l : List Int) (f : Nat) (cap : Array Value) (q : Int → Bool) (w : World) (h : Ints w a n c l)
    (hf : ∀ args W, (callFunc f args).run Try.prog W = .ok (.enter f args) W)
    (hq : ∀ W x, Below w.heap.size w W → x ∈ l → Calls Try.prog f (#[.int .i64 x] ++ cap) W fun e w' => e = .returned (.bool (q x)) ∧ ∃ m, w' = W.drewN m) :
    Calls Try.prog 107 #[.slice a n c, .func (.func f) #[] cap] w fun e w' => e = .returned (.bool (l.any q)) ∧ ∃ m, w' = w.drewN m := by
  have HF := Lib.hid hf
  have HQ := Lib.hid hq
  clear hf hq
  go_enter Try.func107, Try.ntmps107
  go_wp2_with (go_at_call 109; refine (IndexFunc_any _ _ _ l _ _ q _ h HF.out HQ.out).mono ?_; rintro e w' ⟨i, rfl, hi, m, rfl⟩)
  go_ret
  exact ⟨ret_bool (by assumption), _, rfl⟩
/-- Strictly increasing numbers of a range. -/
def risB (l : List Int) (lo hi : Int) : Bool := decide (∀ i : Nat, i < l.length → (lo ≤ l.getD i 0 ∧ l.getD i 0 ≤ hi) ∧ (0 < i → l.getD (i - 1) 0 < l.getD i 0))
theorem risB_no (l : List Int) (lo hi : Int) (i : Nat) (h : i < l.length) (hx : ¬ ((lo ≤ l.getD i 0 ∧ l.getD i 0 ≤ hi) ∧ (0 < i → l.getD (i - 1) 0 < l.getD i 0))) : risB l lo hi = false := by
  unfold risB; rw [decide_eq_false_iff_not]; intro H; exact hx (H i h)
theorem risB_yes (l : List Int) (lo hi : Int) (h : ∀ i : Nat, i < l.length → (lo ≤ l.getD i 0 ∧ l.getD i 0 ≤ hi) ∧ (0 < i → l.getD (i - 1) 0 < l.getD i 0)) : risB l lo hi = true := by
  unfold risB; rw [decide_eq_true_eq]; exact h
end Go.Proofs.Ythpcmbdkboajcaa
