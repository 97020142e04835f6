/- Draws of primes, elements, keys. -/
import Derived.Test.YtnhphmhckbjnnaaCur
namespace Go.Proofs.Ytnhphmhckbjnnaa
open Go.RowKit

theorem Only.thn {F G : List Nat} {w w1 w2 : World} (h : Only F w w1) (k : Only G w1 w2) (hG : ∀ q ∈ G, w.heap.size ≤ q ∨ q ∈ F) : Only F w w2 :=
  ⟨k.os.trans h.os, k.tape.trans h.tape, k.output.trans h.output, Nat.le_trans h.size k.size, fun i hi hn => (k.block i (Nat.lt_of_lt_of_le hi h.size) (fun hm => by
    rcases hG i hm with h1 | h1
    · omega
    · exact hn h1)).trans (h.block i hi hn)⟩
/-- A row made behind w stays where the cursor writes. -/
theorem Own.cur {w1 w2 : World} {g b : Nat} {a : Option Addr} {n c : Nat} {l : List Int} (h : Own w1 b a n c l) (ho : Only [g] w1 w2) (hb : g < b) : Own w2 b a n c l :=
  h.only ho (fun q hq hq' => by have := (h.feet q hq).1; simp at hq'; omega)
theorem lit_ne {w : World} {g k : Nat} (h : Cur w g k) (n : Nat) : ∀ x : Addr, 0 < n → some (⟨w.heap.size, 0, none⟩ : Addr) = some x → x.block ∉ [g] := fun x _ hx => by
  have := h.lt
  cases hx
  simp
  omega
theorem Own.ne_cur {w : World} {b g : Nat} {a : Option Addr} {n c : Nat} {l : List Int} (h : Own w b a n c l) (hg : g < b) : ∀ x : Addr, 0 < n → a = some x → x.block ∉ [g] := fun x hn hx => by
  have := (h.range x (by have := h.cap; omega) hx).1
  simp
  omega
def NumP (lo hi : Int) (d : Nat) (w : World) (g k : Nat) (e : Ending) (w' : World) : Prop := ∃ (x : Int) (k' : Nat), e = .returned (.int .i64 x) ∧ lo ≤ x ∧ x ≤ hi ∧ k' ≤ k + d ∧ Cur w' g k' ∧ Only [g] w w'
theorem among_r (g k : Nat) (L : List Int) (lo hi : Int) (w : World) (h : Cur w g k) (hk : k ≤ 900000000000000) (hn : 0 < L.length) (hm : L.length ≤ 1000) (hr : ∀ y ∈ L, lo ≤ y ∧ y ≤ hi) :
    Calls Try.prog 57 #[.pointer (some ⟨g, 0, none⟩), .slice (some ⟨w.heap.size, 0, none⟩) L.length L.length] (w.alloc (.cells (L.map (Value.int .i64)).toArray 3)) (NumP lo hi 2 w g k) :=
  (among_any g k _ L.length L.length L _ (h.alloc _) hk (Ints.lit w L 3 (by unfold maxLen; omega)) hn (lit_ne h _)).mono fun _ _ ⟨x, k', he, hx, hk, hc, ho⟩ =>
    ⟨x, k', he, (hr x hx).1, (hr x hx).2, hk, hc, ((Only.refl _ _).alloc _).trans ho⟩
theorem l1Most_any (a b : Int) (w : World) :
    Calls Try.prog 29 #[.int .i64 a, .int .i64 b] w fun e w' => e = .returned (.int .i64 (max a b)) ∧ ∃ m, w' = w.drewN m := by
  by_cases h : a > b
  all_goals
    go_enter Try.func29, Try.ntmps29
    go_wp2
    go_ret
    exact ⟨ret_int (by omega), 0, rfl⟩
set_option maxHeartbeats 4000000 in
theorem secret_any (g k : Nat) (w : World) (h : Cur w g k) (hk : k ≤ 800000000000000) :
    Calls Try.prog 49 #[.pointer (some ⟨g, 0, none⟩)] w (NumP (-1) 1000000001 4 w g k) := by
  go_enter Try.func49, Try.ntmps49
  go_wp2_with fail
  refine (one_any g k _ _ h (by omega)).mono ?_; rintro e w1 ⟨b, k', rfl, k1, c1, o1⟩
  cases b
  · go_wp2_with fail
    refine (pick_any g k' _ _ c1 (by omega)).mono ?_; rintro e w3 ⟨x, k2, rfl, x0, x1, x2, kk, c3, o3⟩
    have V1 := o1.trans o3
    clear o1 o3 x1
    go_wp2
    go_ret
    exact ⟨x, k2, rfl, by omega, by omega, by omega, c3, V1⟩
  · go_wp2_with fail
    refine (among_r g k' [0, 1000000000, 1000000001, -1] (-1) 1000000001 _ c1 (by omega) (by simp) (by simp) (by decide)).mono ?_; rintro e w2 ⟨x, k2, rfl, x0, x1, kk, c2, o2⟩
    have V1 := o1.trans o2
    clear o1 o2
    go_wp2
    go_ret
    exact ⟨x, k2, rfl, by omega, by omega, by omega, c2, V1⟩
def RowP (lo hi : Int) (n : Int) (w : World) (g k : Nat) (e : Ending) (w' : World) : Prop := ∃ (a : Option Addr) (m c : Nat) (l : List Int) (k' : Nat), e = .returned (.slice a m c) ∧ (m : Int) = max n 0 ∧ Own w' w.heap.size a m c l ∧ (∀ x ∈ l, lo ≤ x ∧ x ≤ hi) ∧ k' ≤ k + 4 * m ∧ Cur w' g k' ∧ Only [g] w w'
end Go.Proofs.Ytnhphmhckbjnnaa
