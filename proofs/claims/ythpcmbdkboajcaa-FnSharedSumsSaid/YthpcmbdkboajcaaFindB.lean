/- Tests of all numbers of a list by closures that make memory. -/
import Derived.Test.YthpcmbdkboajcaaAreAll
namespace Go.Proofs.Ythpcmbdkboajcaa
open Go.RowKit
set_option maxHeartbeats 1000000 in
theorem IndexFunc_b (a : Option Addr) (n c : Nat) (l : List Int) (f : Nat) (cap : Array Value) (q : Int → Bool) (w : World) (h : Ints w a n c l)
    (hf : ∀ args W, (callFunc f args).run Try.prog W = .ok (.enter f args) W)
    (hq : ∀ W x, Below w.heap.size w W → x ∈ l → Calls Try.prog f (#[.int .i64 x] ++ cap) W fun e w' => e = .returned (.bool (q x)) ∧ Below W.heap.size W w') :
    Calls Try.prog 109 #[.slice a n c, .func (.func f) #[] cap] w fun e w' => ∃ i : Int, e = .returned (.int .i64 i) ∧ Hid (decide (0 ≤ i) = l.any q) ∧ Below w.heap.size w w' := by
  have hn := h.le
  have HQ := Lib.hid hq
  clear hq
  go_enter Try.func109, Try.ntmps109
  go_wp2
  go_loopw [8] (fun v wr => ∃ k : Nat, k ≤ n ∧ v = .int .i64 k ∧ (∀ i, i < k → q (l.getD i 0) = false) ∧ Below w.heap.size w wr) (fun v _ => n - (intOf v).toNat)
  case atStart => exact ⟨0, Nat.zero_le _, rfl, fun i hi => absurd hi (by omega), Below.refl _ _⟩
  case round =>
    obtain ⟨k, hk, rfl, hj, hbel⟩ := hrel
    have HJ := Lib.hid hj
    clear hj
    by_cases hlt : k < n
    · obtain ⟨g, o, rfl, hcell⟩ := (h.below hbel).at k hlt
      have HC := Lib.hid (HQ.out wr (l.getD k 0) hbel (getD_mem l k (by rw [← h.len]; exact hlt)))
      cases hb : q (l.getD k 0)
      · rw [hb] at HC
        have HB := Lib.hid hb
        clear hb
        go_wp2_with (refine HC.out.mono ?_; rintro e w' ⟨rfl, u⟩)
        have hbel' := hbel.trans (‹Below wr.heap.size wr _›.mono hbel.size)
        go_roundw
        case rel => exact ⟨k + 1, by omega, by go_num, fun i hi => by
          by_cases e : i = k
          · subst e; exact HB.out
          · exact HJ.out i (by omega), hbel'⟩
        case measure => simp [intOf]; omega
      · rw [hb] at HC
        have HB := Lib.hid (any_hit l q k (by rw [← h.len]; exact hlt) hb)
        clear hb
        go_wp2_with (refine HC.out.mono ?_; rintro e w' ⟨rfl, u⟩)
        have hbel' := hbel.trans (‹Below wr.heap.size wr _›.mono hbel.size)
        go_ret
        exact ⟨k, rfl, by unfold Hid; rw [HB.out]; simp, hbel'⟩
    · have HB := Lib.hid (any_miss l q (fun i hi => HJ.out i (by have := h.len; omega)))
      go_wp2
      go_ret
      exact ⟨-1, rfl, by unfold Hid; rw [HB.out]; decide, hbel⟩
set_option maxHeartbeats 1000000 in
theorem ContainsFunc_b (a : Option Addr) (n c : Nat) (l : List Int) (f : Nat) (cap : Array Value) (q : Int → Bool) (w : World) (h : Ints w a n c l)
    (hf : ∀ args W, (callFunc f args).run Try.prog W = .ok (.enter f args) W)
    (hq : ∀ W x, Below w.heap.size w W → x ∈ l → Calls Try.prog f (#[.int .i64 x] ++ cap) W fun e w' => e = .returned (.bool (q x)) ∧ Below W.heap.size W w') :
    Calls Try.prog 107 #[.slice a n c, .func (.func f) #[] cap] w fun e w' => e = .returned (.bool (l.any q)) ∧ Below w.heap.size w w' := by
  have HQ := Lib.hid hq
  have HF := Lib.hid hf
  clear hq hf
  go_enter Try.func107, Try.ntmps107
  go_wp2_with fail
  refine (IndexFunc_b _ _ _ l _ _ q _ h HF.out HQ.out).mono ?_; rintro e w' ⟨i, rfl, hi, u⟩
  go_wp2
  go_ret
  exact ⟨ret_bool hi.out, u⟩
set_option maxHeartbeats 1000000 in
theorem areAll_1_b (x : Int) (p : Addr) (f : Nat) (cap : Array Value) (b : Bool) (w : World) (hp : w.cell? p = some (.func (.func f) #[] cap))
    (hf : ∀ args W, (callFunc f args).run Try.prog W = .ok (.enter f args) W)
    (hq : Calls Try.prog f (#[.int .i64 x] ++ cap) w fun e w' => e = .returned (.bool b) ∧ Below w.heap.size w w') :
    Calls Try.prog 108 #[.int .i64 x, .pointer (some p)] w fun e w' => e = .returned (.bool (!b)) ∧ Below w.heap.size w w' := by
  have HQ := Lib.hid hq
  clear hq
  go_enter Try.func108, Try.ntmps108
  go_wp2_with (refine HQ.out.mono ?_; rintro e w' ⟨rfl, u⟩)
  go_ret
  have u1 := ‹Below w.heap.size w _›
  exact ⟨rfl, u1⟩
set_option maxHeartbeats 1000000 in
theorem areAll_b (a : Option Addr) (n c : Nat) (l : List Int) (f : Nat) (cap : Array Value) (q : Int → Bool) (w : World) (h : Ints w a n c l)
    (hf : ∀ args W, (callFunc f args).run Try.prog W = .ok (.enter f args) W)
    (hq : ∀ W x, Below w.heap.size w W → x ∈ l → Calls Try.prog f (#[.int .i64 x] ++ cap) W fun e w' => e = .returned (.bool (q x)) ∧ Below W.heap.size W w') :
    Calls Try.prog 96 #[.slice a n c, .func (.func f) #[] cap] w fun e w' => e = .returned (.bool (l.all q)) ∧ Below w.heap.size w w' := by
  have hall : (!l.any fun x => !q x) = l.all q := by rw [List.all_eq_not_any_not]
  have HALL := Lib.hid hall
  clear hall
  have hbel : Below w.heap.size w (w.alloc (.cells #[.func (.func f) #[] cap] 65)) := (Below.refl _ _).alloc (Nat.le_refl _) _
  have hc : (w.alloc (.cells #[.func (.func f) #[] cap] 65)).cell? ⟨w.heap.size, 0, none⟩ = some (.func (.func f) #[] cap) := cell_new _ _ _
  have hcf := ContainsFunc_b a n c l 108 #[.pointer (some ⟨w.heap.size, 0, none⟩)] (fun x => !q x) (w.alloc (.cells #[.func (.func f) #[] cap] 65)) (h.alloc _) areAll_1_enters
    (fun W x hb hx => areAll_1_b x _ f cap (q x) W (by rw [hb.cell (by simp)]; exact hc) hf (hq _ x (hbel.trans (hb.mono (by simp))) hx))
  have HCF := Lib.hid hcf
  clear hcf hq hf
  go_enter Try.func96, Try.ntmps96
  go_wp2_with (go_at_call 107; refine HCF.out.mono ?_; rintro e w' ⟨rfl, u⟩)
  go_ret
  have u1 := ‹Below (World.alloc _ _).heap.size _ _›
  exact ⟨ret_bool HALL.out, hbel.trans (u1.mono (by simp))⟩
end Go.Proofs.Ythpcmbdkboajcaa
