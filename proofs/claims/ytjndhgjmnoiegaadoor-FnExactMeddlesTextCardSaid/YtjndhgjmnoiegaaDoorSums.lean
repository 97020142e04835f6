/- Sums of shares. -/
import Derived.Test.YtjndhgjmnoiegaaDoorField
namespace Go.Proofs.YtjndhgjmnoiegaaDoor
open Go.RowKit

theorem keepC {w w' : World} {p : Addr} {v : Value} (u : Below w.heap.size w w') (h : w.cell? p = some v) : w'.cell? p = some v := by
  rw [u.cell (World.block_lt_of_cell? w _ h)]; exact h
theorem keepA {w : World} {p : Addr} {v : Value} (ob : Obj) (h : w.cell? p = some v) : (w.alloc ob).cell? p = some v := keepC ((Below.refl _ _).alloc (Nat.le_refl _) ob) h
theorem add_mod2 (a b p : Int) : (a + b % p) % p = (a + b) % p := by rw [Int.add_emod, Int.emod_emod_of_dvd _ (Int.dvd_refl _), ← Int.add_emod]
/-- The first k sums. -/
def sumK (p : Int) (l l' : List Int) (k : Nat) : List Int := (List.range k).map fun i => (l.getD i 0 + l'.getD i 0) % p
theorem sumK_succ (p : Int) (l l' : List Int) (k : Nat) : sumK p l l' (k + 1) = sumK p l l' k ++ [(l.getD k 0 + l'.getD k 0) % p] := by simp [sumK, List.range_succ]
theorem sumK_len (p : Int) (l l' : List Int) (k : Nat) : (sumK p l l' k).length = k := by simp [sumK]
theorem getD_range (l : List Int) (lo hi : Int) (h : ∀ x ∈ l, lo ≤ x ∧ x ≤ hi) (k : Nat) (hk : k < l.length) : lo ≤ l.getD k 0 ∧ l.getD k 0 ≤ hi := h _ (getD_mem l k hk)
end Go.Proofs.YtjndhgjmnoiegaaDoor
