/- Searching slices of integers: the library's Index, IndexFunc and what stands over them; increasing lists. -/
import Derived.Test.YtjndhgjmnoiegaaDoorOwn
namespace Go.Proofs.YtjndhgjmnoiegaaDoor
open Go.RowKit

theorem enters {P : Program} {f : FuncId} {fn : Func} (hf : P.funcs[f]? = some fn) (hname : (fn.name == "runtime.NumGoroutine") = false) (hb : fn.body.isSome = true) (args : Array Value) (w : World) :
    (callFunc f args).run P w = .ok (.enter f args) w := by
  have h1 : fn.name ≠ "runtime.NumGoroutine" := by simpa using hname
  obtain ⟨c, hc⟩ := Option.isSome_iff_exists.1 hb
  simp [callFunc, hf, h1, hc]

theorem any_hit (l : List Int) (q : Int → Bool) (k : Nat) (h : k < l.length) (hq : q (l.getD k 0) = true) : l.any q = true := by
  rw [List.any_eq_true]; exact ⟨_, getD_mem l k h, hq⟩
theorem any_miss (l : List Int) (q : Int → Bool) (h : ∀ i, i < l.length → q (l.getD i 0) = false) : l.any q = false := by
  rw [List.any_eq_false]; intro x hx; obtain ⟨k, hk, rfl⟩ := mem_getD l x hx; rw [h k hk]; simp

/-- Strictly increasing numbers of a range. -/
def risB (l : List Int) (lo hi : Int) : Bool := decide (∀ i : Nat, i < l.length → (lo ≤ l.getD i 0 ∧ l.getD i 0 ≤ hi) ∧ (0 < i → l.getD (i - 1) 0 < l.getD i 0))
theorem risB_no (l : List Int) (lo hi : Int) (i : Nat) (h : i < l.length) (hx : ¬ ((lo ≤ l.getD i 0 ∧ l.getD i 0 ≤ hi) ∧ (0 < i → l.getD (i - 1) 0 < l.getD i 0))) : risB l lo hi = false := by
  unfold risB; rw [decide_eq_false_iff_not]; intro H; exact hx (H i h)
theorem risB_yes (l : List Int) (lo hi : Int) (h : ∀ i : Nat, i < l.length → (lo ≤ l.getD i 0 ∧ l.getD i 0 ≤ hi) ∧ (0 < i → l.getD (i - 1) 0 < l.getD i 0)) : risB l lo hi = true := by
  unfold risB; rw [decide_eq_true_eq]; exact h
end Go.Proofs.YtjndhgjmnoiegaaDoor
