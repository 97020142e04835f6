/- Tests of all numbers of a list by closures: areAll, areElements, pairs and triples. -/
import Derived.Test.YthpcmbdkboajcaaField
namespace Go.Proofs.Ythpcmbdkboajcaa
open Go.RowKit

set_option maxHeartbeats 1000000 in
theorem areAll_1_any (x : Int) (p : Addr) (f : Nat) (cap : Array Value) (b : Bool) (w : World) (hp : w.cell? p = some (.func (.func f) #[] cap))
    (hf : ∀ args W, (callFunc f args).run Try.prog W = .ok (.enter f args) W)
    (hq : ∀ m, Calls Try.prog f (#[.int .i64 x] ++ cap) (w.drewN m) fun e w' => e = .returned (.bool b) ∧ ∃ m', w' = (w.drewN m).drewN m') :
    Calls Try.prog 108 #[.int .i64 x, .pointer (some p)] w fun e w' => e = .returned (.bool (!b)) ∧ ∃ m, w' = w.drewN m := by
  have HQ := Lib.hid (hq 0)
  clear hq
  go_enter Try.func108, Try.ntmps108
  go_wp2_with (refine HQ.out.mono ?_; rintro e w' ⟨rfl, m', rfl⟩)
  go_ret
  exact ⟨rfl, _, rfl⟩
theorem areAll_1_enters (args : Array Value) (W : World) : (callFunc 108 args).run Try.prog W = .ok (.enter 108 args) W :=
  enters Try.func108 (by kernel_rfl) (by kernel_rfl) args W
set_option maxHeartbeats 1000000 in
theorem areAll_any (a : Option Addr) (n c : Nat) (l : List Int) (f : Nat) (cap : Array Value) (q : Int → Bool) (w : World) (h : Ints w a n c l)
    (hf : ∀ args W, (callFunc f args).run Try.prog W = .ok (.enter f args) W)
    (hq : ∀ W x, Below w.heap.size w W → x ∈ l → Calls Try.prog f (#[.int .i64 x] ++ cap) W fun e w' => e = .returned (.bool (q x)) ∧ ∃ m, w' = W.drewN m) :
    Calls Try.prog 96 #[.slice a n c, .func (.func f) #[] cap] w fun e w' => e = .returned (.bool (l.all q)) ∧ Below w.heap.size w w' := by
  have hall : (!l.any fun x => !q x) = l.all q := by rw [List.all_eq_not_any_not]
  have HALL := Lib.hid hall
  clear hall
  have hbel : Below w.heap.size w (w.alloc (.cells #[.func (.func f) #[] cap] 65)) := (Below.refl _ _).alloc (Nat.le_refl _) _
  have hc : (w.alloc (.cells #[.func (.func f) #[] cap] 65)).cell? ⟨w.heap.size, 0, none⟩ = some (.func (.func f) #[] cap) := cell_new _ _ _
  have hcf := ContainsFunc_any a n c l 108 #[.pointer (some ⟨w.heap.size, 0, none⟩)] (fun x => !q x) (w.alloc (.cells #[.func (.func f) #[] cap] 65)) (h.alloc _) areAll_1_enters
    (fun W x hb hx => areAll_1_any x _ f cap (q x) W (by rw [hb.cell (by simp)]; exact hc) hf (fun m => hq _ x (hbel.trans ((hb.mono (by simp)).trans ((below_of_drewN m).mono (by have := hb.size; simp at this; omega)))) hx))
  have HCF := Lib.hid hcf
  clear hcf hq hf
  go_enter Try.func96, Try.ntmps96
  go_wp2_with (go_at_call 107; refine HCF.out.mono ?_; rintro e w' ⟨rfl, m, rfl⟩)
  go_ret
  exact ⟨ret_bool HALL.out, below_drewN hbel _⟩
def bitB (x : Int) : Bool := decide (0 ≤ x ∧ x ≤ 1)
set_option maxHeartbeats 400000 in
theorem isBit_any (x : Int) (w : World) : Calls Try.prog 64 #[.int .i64 x] w fun e w' => e = .returned (.bool (bitB x)) ∧ ∃ m, w' = w.drewN m := by
  by_cases h0 : x = 0
  · subst h0
    go_enter Try.func64, Try.ntmps64
    go_wp2
    go_ret
    exact ⟨rfl, 0, rfl⟩
  · by_cases h1 : x = 1
    · subst h1
      go_enter Try.func64, Try.ntmps64
      go_wp2
      go_ret
      exact ⟨rfl, 0, rfl⟩
    · have b0 : ((x == 0) : Bool) = false := by simp [h0]
      have b1 : ((x == 1) : Bool) = false := by simp [h1]
      have HB := Lib.hid (show bitB x = false by unfold bitB; exact decide_eq_false (by omega))
      clear h0 h1
      go_enter Try.func64, Try.ntmps64
      go_wp2
      go_ret
      exact ⟨ret_bool HB.out.symm, 0, rfl⟩
theorem isBit_enters (args : Array Value) (W : World) : (callFunc 64 args).run Try.prog W = .ok (.enter 64 args) W :=
  enters Try.func64 (by kernel_rfl) (by kernel_rfl) args W
/-- areAll(l, isBit). -/
theorem areBits_any (a : Option Addr) (n c : Nat) (l : List Int) (w : World) (h : Ints w a n c l) :
    Calls Try.prog 96 #[.slice a n c, .func (.func 64) #[] #[]] w fun e w' => e = .returned (.bool (allB l 0 1)) ∧ Below w.heap.size w w' :=
  areAll_any a n c l 64 #[] bitB w h isBit_enters (fun W x _ _ => isBit_any x W)
set_option maxHeartbeats 400000 in
theorem areElements_1_any (x P : Int) (p : Addr) (w : World) (hp : w.cell? p = some (.int .i64 P)) (h1 : 1 ≤ P) (h2 : P ≤ 1000000) :
    Calls Try.prog 98 #[.int .i64 x, .pointer (some p)] w fun e w' => e = .returned (.bool (decide (0 ≤ x ∧ x ≤ P - 1))) ∧ ∃ m, w' = w.drewN m := by
  go_enter Try.func98, Try.ntmps98
  go_wp2_with (go_at_call 54; refine (within_any _ _ _ _).mono ?_; rintro e w' ⟨rfl, rfl⟩)
  go_ret
  exact ⟨rfl, 0, rfl⟩
theorem areElements_1_enters (args : Array Value) (W : World) : (callFunc 98 args).run Try.prog W = .ok (.enter 98 args) W :=
  enters Try.func98 (by kernel_rfl) (by kernel_rfl) args W
set_option maxHeartbeats 1000000 in
theorem areElements_any (p : Int) (a : Option Addr) (n c : Nat) (l : List Int) (w : World) (h : Ints w a n c l) :
    Calls Try.prog 65 #[.int .i64 p, .slice a n c] w fun e w' => e = .returned (.bool (elsB p l)) ∧ Below w.heap.size w w' := by
  have hbel : Below w.heap.size w (w.alloc (.cells #[.int .i64 p] 3)) := (Below.refl _ _).alloc (Nat.le_refl _) _
  have hc : (w.alloc (.cells #[.int .i64 p] 3)).cell? ⟨w.heap.size, 0, none⟩ = some (.int .i64 p) := cell_new _ _ _
  unfold elsB
  cases hp : isPr p
  · simp only [Bool.false_and]
    go_enter Try.func65, Try.ntmps65
    go_wp2_with (go_at_call 52; refine (IsPrime_any _ _).mono ?_; rintro e w' ⟨rfl, m, rfl⟩)
    go_ret
    exact ⟨rfl, below_drewN hbel _⟩
  · obtain ⟨r1, r2⟩ := isPr_range hp
    simp only [Bool.true_and]
    have haa := fun (m : Nat) => areAll_any a n c l 98 #[.pointer (some ⟨w.heap.size, 0, none⟩)] (fun x => decide (0 ≤ x ∧ x ≤ p - 1)) ((w.alloc (.cells #[.int .i64 p] 3)).drewN m) ((h.alloc _).drewN m) areElements_1_enters
      (fun W x hb _ => areElements_1_any x p _ W (by rw [hb.cell (by simp)]; exact hc) (by omega) (by omega))
    have HAA := Lib.hid haa
    clear haa
    go_enter Try.func65, Try.ntmps65
    go_wp2_with (first | (go_at_call 52; refine (IsPrime_any _ _).mono ?_; rintro e w' ⟨rfl, m, rfl⟩) | (go_at_call 96; refine (HAA.out _).mono ?_; rintro e w' ⟨rfl, u⟩))
    go_ret
    have u1 := ‹Below (World.drewN _ _).heap.size _ _›
    exact ⟨ret_bool (by simp [allB]), (below_drewN hbel _).trans (u1.mono (by simp))⟩
def pairB (p : Int) (l : List Int) : Bool := elsB p l && decide (l.length = 2)
def sixB (p : Int) (l : List Int) : Bool := elsB p l && decide (l.length = 6)
def bpairB (l : List Int) : Bool := decide (l.length = 2) && allB l 0 1
set_option maxHeartbeats 400000 in
theorem isPair_any (p : Int) (a : Option Addr) (n c : Nat) (l : List Int) (w : World) (h : Ints w a n c l) :
    Calls Try.prog 44 #[.int .i64 p, .slice a n c] w fun e w' => e = .returned (.bool (pairB p l)) ∧ Below w.heap.size w w' := by
  have hn := h.le
  have hl := h.len
  unfold pairB
  cases he : elsB p l
  · simp only [Bool.false_and]
    clear hl
    go_enter Try.func44, Try.ntmps44
    go_wp2_with fail
    refine (areElements_any _ _ _ _ l _ h).mono ?_; rintro e w1 ⟨rfl, u⟩
    go_wp2
    go_ret
    exact ⟨rfl, by assumption⟩
  · simp only [Bool.true_and]
    by_cases h2 : n = 2
    · rw [decide_eq_true (by omega)]
      have hb : ((n : Int) == 2) = true := by simp [h2]
      clear h2 hl
      go_enter Try.func44, Try.ntmps44
      go_wp2_with fail
      refine (areElements_any _ _ _ _ l _ h).mono ?_; rintro e w1 ⟨rfl, u⟩
      go_wp2
      go_ret
      exact ⟨rfl, by assumption⟩
    · rw [decide_eq_false (by omega)]
      have hb : ((n : Int) == 2) = false := by simp; omega
      clear h2 hl
      go_enter Try.func44, Try.ntmps44
      go_wp2_with fail
      refine (areElements_any _ _ _ _ l _ h).mono ?_; rintro e w1 ⟨rfl, u⟩
      go_wp2
      go_ret
      exact ⟨rfl, by assumption⟩
set_option maxHeartbeats 400000 in
theorem isSix_any (p : Int) (a : Option Addr) (n c : Nat) (l : List Int) (w : World) (h : Ints w a n c l) :
    Calls Try.prog 58 #[.int .i64 p, .slice a n c] w fun e w' => e = .returned (.bool (sixB p l)) ∧ Below w.heap.size w w' := by
  have hn := h.le
  have hl := h.len
  unfold sixB
  cases he : elsB p l
  · simp only [Bool.false_and]
    clear hl
    go_enter Try.func58, Try.ntmps58
    go_wp2_with fail
    refine (areElements_any _ _ _ _ l _ h).mono ?_; rintro e w1 ⟨rfl, u⟩
    go_wp2
    go_ret
    exact ⟨rfl, by assumption⟩
  · simp only [Bool.true_and]
    by_cases h2 : n = 6
    · rw [decide_eq_true (by omega)]
      have hb : ((n : Int) == 6) = true := by simp [h2]
      clear h2 hl
      go_enter Try.func58, Try.ntmps58
      go_wp2_with fail
      refine (areElements_any _ _ _ _ l _ h).mono ?_; rintro e w1 ⟨rfl, u⟩
      go_wp2
      go_ret
      exact ⟨rfl, by assumption⟩
    · rw [decide_eq_false (by omega)]
      have hb : ((n : Int) == 6) = false := by simp; omega
      clear h2 hl
      go_enter Try.func58, Try.ntmps58
      go_wp2_with fail
      refine (areElements_any _ _ _ _ l _ h).mono ?_; rintro e w1 ⟨rfl, u⟩
      go_wp2
      go_ret
      exact ⟨rfl, by assumption⟩
end Go.Proofs.Ythpcmbdkboajcaa
