/- Slices of integers: reading (Ints), owned rows (Own), and how both are carried on. -/
import Derived.Test.YtjndhgjmnoiegaaDoorArith
import Derived.OpenShut
namespace Go.Proofs.YtjndhgjmnoiegaaDoor
open Go.RowKit

/-- The slice (a, n, c) reads as the list l in the world w. -/
def Ints (w : World) (a : Option Addr) (n c : Nat) (l : List Int) : Prop :=
  n = l.length ∧ n ≤ c ∧ c ≤ maxLen ∧ (a = none → c = 0) ∧ ∃ g o, (0 < n → a = some ⟨g, o, none⟩) ∧ ∀ i, i < n → w.cell? ⟨g, o + i, none⟩ = some (.int .i64 (l.getD i 0))

theorem Ints.len {w a n c l} (h : Ints w a n c l) : n = l.length := h.1
theorem Ints.le {w a n c l} (h : Ints w a n c l) : (n : Int) ≤ 9223372036854775807 := by
  have := h.2.1; have := h.2.2.1; unfold maxLen at this; omega
theorem Ints.at {w a n c l} (h : Ints w a n c l) (k : Nat) (hk : k < n) : ∃ g o, a = some ⟨g, o, none⟩ ∧ w.cell? ⟨g, o + k, none⟩ = some (.int .i64 (l.getD k 0)) := by
  obtain ⟨_, _, _, _, g, o, h1, h2⟩ := h
  exact ⟨g, o, h1 (by omega), h2 k hk⟩
theorem Ints.drewN {w a n c l} (h : Ints w a n c l) (m : Nat) : Ints (w.drewN m) a n c l := h
theorem Ints.below {w w' a n c l} (h : Ints w a n c l) (hb : Below w.heap.size w w') : Ints w' a n c l := by
  obtain ⟨h1, h2, h3, hn, g, o, h4, h5⟩ := h
  exact ⟨h1, h2, h3, hn, g, o, h4, fun i hi => by rw [hb.cell (World.block_lt_of_cell? w _ (h5 i hi))]; exact h5 i hi⟩
theorem Ints.alloc {w a n c l} (h : Ints w a n c l) (ob : Obj) : Ints (w.alloc ob) a n c l :=
  h.below ((Below.refl _ _).alloc (Nat.le_refl _) _)
theorem cell_new (w : World) (v : Value) (t : TypeId) : (w.alloc (.cells #[v] t)).cell? ⟨w.heap.size, 0, none⟩ = some v := by
  simp
theorem below_of_drewN {w : World} (m : Nat) : Below w.heap.size w (w.drewN m) := below_drewN (Below.refl _ _) m
theorem below_of_quiet {w w' : World} (h : ∃ m, w' = w.drewN m) : Below w.heap.size w w' := by obtain ⟨m, rfl⟩ := h; exact below_of_drewN m
/-- A literal that lies at a new block's head. -/
theorem Ints.lit (w : World) (l : List Int) (e : TypeId) (h : l.length ≤ maxLen) : Ints (w.alloc (.cells (l.map (Value.int .i64)).toArray e)) (some ⟨w.heap.size, 0, none⟩) l.length l.length l := by
  refine ⟨rfl, Nat.le_refl _, h, fun h => (by cases h), w.heap.size, 0, fun _ => rfl, fun i hi => ?_⟩
  rw [cell_of_row (w.alloc _) w.heap.size (0 + i) _ e (0, 0) (heap_alloc_new w _)]
  simp [hi]
theorem Ints.lit2 (w : World) (x y : Int) (e : TypeId) : Ints (w.alloc (.cells #[.int .i64 x, .int .i64 y] e)) (some ⟨w.heap.size, 0, none⟩) 2 2 [x, y] := Ints.lit w [x, y] e (by simp [maxLen])
theorem Ints.lit1 (w : World) (x : Int) (e : TypeId) : Ints (w.alloc (.cells #[.int .i64 x] e)) (some ⟨w.heap.size, 0, none⟩) 1 1 [x] := Ints.lit w [x] e (by simp [maxLen])

theorem Ints.nil0 (w : World) : Ints w none 0 0 [] := ⟨rfl, Nat.le_refl _, Nat.zero_le _, fun _ => rfl, 0, 0, fun h => absurd h (by omega), fun i hi => absurd hi (by omega)⟩
/-- Out of an argument's row (its spare room struck). -/
theorem Ints.of_row {w : World} {x : Addr} {n c : Nat} {zs : List Int} (hl : n ≤ c) (hm : c ≤ maxLen) (hz : zs.length = c) (hcell : ∀ i, i < zs.length → w.cell? (x.add i) = some (.int .i64 (zs.getD i 0))) : Ints w (some x) n c (zs.take n) := by
  by_cases h0 : 0 < zs.length
  · obtain ⟨b, off, rfl, hc⟩ := ints_at hcell h0
    refine ⟨by simp; omega, hl, hm, fun h => (by cases h), b, off, fun _ => rfl, fun i hi => ?_⟩
    rw [hc i (by omega)]
    simp [List.getD, hi]
  · exact ⟨by simp; omega, hl, hm, fun h => (by cases h), 0, 0, fun h => absurd h (by omega), fun i hi => absurd hi (by omega)⟩
/-- Numbers of Go's int. -/
def Wf (l : List Int) : Prop := ∀ x ∈ l, -9223372036854775808 ≤ x ∧ x ≤ 9223372036854775807
theorem wf_range {x : Int} (h : (Lit.int .i64 x).wf = true) : -9223372036854775808 ≤ x ∧ x ≤ 9223372036854775807 := by
  have := bounds_i64 h
  omega

/-- All numbers of a list lie in a range. -/
def allB (l : List Int) (lo hi : Int) : Bool := l.all fun x => decide (lo ≤ x ∧ x ≤ hi)
theorem allB_iff (l : List Int) (lo hi : Int) : allB l lo hi = true ↔ ∀ x ∈ l, lo ≤ x ∧ x ≤ hi := by simp [allB]
theorem getD_mem (l : List Int) (k : Nat) (h : k < l.length) : l.getD k 0 ∈ l := by
  simp [List.getD, h]
theorem mem_getD (l : List Int) (x : Int) (h : x ∈ l) : ∃ k, k < l.length ∧ x = l.getD k 0 := by
  obtain ⟨k, hk, rfl⟩ := List.getElem_of_mem h
  exact ⟨k, hk, by simp [List.getD, hk]⟩
theorem allB_no (l : List Int) (lo hi : Int) (k : Nat) (h : k < l.length) (hx : ¬ (lo ≤ l.getD k 0 ∧ l.getD k 0 ≤ hi)) : allB l lo hi = false := by
  rw [Bool.eq_false_iff]; intro H; exact hx ((allB_iff ..).1 H _ (getD_mem l k h))
theorem allB_yes (l : List Int) (lo hi : Int) (h : ∀ j, j < l.length → lo ≤ l.getD j 0 ∧ l.getD j 0 ≤ hi) : allB l lo hi = true := by
  rw [allB_iff]; intro x hx; obtain ⟨k, hk, rfl⟩ := mem_getD l x hx; exact h k hk

end Go.Proofs.YtjndhgjmnoiegaaDoor
