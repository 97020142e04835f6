/- Lemmas and walks that the claim's proof rests on, part 1. -/
import Derived.Test.YtmbheimjphhamaaRows
import Derived.WalkKit
import Derived.WalkSpells
import Derived.WalkLawsBesides
import Derived.Handy
import Derived.Lib.Hide
import Derived.Deep.QuietTactic
import Derived.BigQuiet
import Derived.Deep.RegionWith
import Derived.StillTailTactics
import Derived.Deep.RegionHeld3
import Derived.OpenShut
import Derived.ArgAppend
import Derived.Deep.DeepCutAuto
namespace Go.Proofs.Ytmbheimjphhamaa
open Go.RowKit
theorem ret_int {k : IntKind} {a b : Int} (h : a = b) : Ending.returned (.int k a) = .returned (.int k b) := by rw [h]
theorem ret_bool {a b : Bool} (h : a = b) : Ending.returned (.bool a) = .returned (.bool b) := by rw [h]
theorem v_int {k : IntKind} {a b : Int} (h : a = b) : Value.int k a = .int k b := by rw [h]
theorem ret_slice {a : Option Addr} {n m c : Nat} (h : n = m) : Ending.returned (.slice a n c) = .returned (.slice a m c) := by rw [h]
end Go.Proofs.Ytmbheimjphhamaa
namespace Go.Proofs.Ytmbheimjphhamaa
open Go.RowKit
/-- A number in a range. -/
def inB (n lo hi : Int) : Bool := decide (lo ≤ n ∧ n ≤ hi)
theorem inB_yes {n lo hi : Int} (h1 : lo ≤ n) (h2 : n ≤ hi) : inB n lo hi = true := decide_eq_true ⟨h1, h2⟩
theorem inB_no {n lo hi : Int} (h : ¬ (lo ≤ n ∧ n ≤ hi)) : inB n lo hi = false := decide_eq_false h
theorem inB_true {n lo hi : Int} (h : inB n lo hi = true) : lo ≤ n ∧ n ≤ hi := of_decide_eq_true h
set_option maxHeartbeats 400000 in
theorem within_any (n lo hi : Int) (w : World) :
    Calls Try.prog 50 #[.int .i64 n, .int .i64 lo, .int .i64 hi] w fun e w' => e = .returned (.bool (inB n lo hi)) ∧ w = w' := by
  by_cases h1 : lo ≤ n
  · have b1 : decide (lo ≤ n) = true := decide_eq_true h1
    go_enter Try.func50, Try.ntmps50
    go_wp2
    go_ret
    exact ⟨ret_bool (by unfold inB; simp [h1]), rfl⟩
  · have b1 : decide (lo ≤ n) = false := decide_eq_false h1
    go_enter Try.func50, Try.ntmps50
    go_wp2
    go_ret
    exact ⟨ret_bool (decide_eq_false (by omega)).symm, rfl⟩
set_option maxHeartbeats 400000 in
theorem l1In_any (n lo hi : Int) (w : World) :
    Calls Try.prog 64 #[.int .i64 n, .int .i64 lo, .int .i64 hi] w fun e w' => e = .returned (.bool (inB n lo hi)) ∧ w = w' := by
  by_cases h1 : lo ≤ n
  · have b1 : decide (lo ≤ n) = true := decide_eq_true h1
    go_enter Try.func64, Try.ntmps64
    go_wp2
    go_ret
    exact ⟨ret_bool (by unfold inB; simp [h1]), rfl⟩
  · have b1 : decide (lo ≤ n) = false := decide_eq_false h1
    go_enter Try.func64, Try.ntmps64
    go_wp2
    go_ret
    exact ⟨ret_bool (decide_eq_false (by omega)).symm, rfl⟩
/-- The number of sets, by the product. -/
def mb (n : Nat) : Nat → Nat
  | 0 => 1
  | i + 1 => mb n i * (n - i) / (i + 1)
end Go.Proofs.Ytmbheimjphhamaa
namespace Go.Proofs.Ytmbheimjphhamaa
open Go.RowKit
/-- The slice (a, n, c) reads as the list l in the world w. -/
def Ints (w : World) (a : Option Addr) (n c : Nat) (l : List Int) : Prop :=
  n = l.length ∧ n ≤ c ∧ c ≤ maxLen ∧ (a = none → c = 0) ∧ ∃ g o, (0 < n → a = some ⟨g, o, none⟩) ∧ ∀ i, i < n → w.cell? ⟨g, o + i, none⟩ = some (.int .i64 (l.getD i 0))
theorem Ints.len {w a n c l} (h : Ints w a n c l) : n = l.length := h.1
theorem Ints.le {w a n c l} (h : Ints w a n c l) : (n : Int) ≤ 9223372036854775807 := by
  have := h.2.1; have := h.2.2.1; unfold maxLen at this; omega
theorem Ints.at {w a n c l} (h : Ints w a n c l) (k : Nat) (hk : k < n) : ∃ g o, a = some ⟨g, o, none⟩ ∧ w.cell? ⟨g, o + k, none⟩ = some (.int .i64 (l.getD k 0)) := by
  obtain ⟨_, _, _, _, g, o, h1, h2⟩ := h
  exact ⟨g, o, h1 (by omega), h2 k hk⟩
theorem Ints.drewN {w a n c l} (h : Ints w a n c l) (m : Nat) : Ints (w.drewN m) a n c l := h
theorem Ints.below {w w' a n c l} (h : Ints w a n c l) (hb : Below w.heap.size w w') : Ints w' a n c l := by
  obtain ⟨h1, h2, h3, hn, g, o, h4, h5⟩ := h
  exact ⟨h1, h2, h3, hn, g, o, h4, fun i hi => by rw [hb.cell (World.block_lt_of_cell? w _ (h5 i hi))]; exact h5 i hi⟩
theorem Ints.alloc {w a n c l} (h : Ints w a n c l) (ob : Obj) : Ints (w.alloc ob) a n c l :=
  h.below ((Below.refl _ _).alloc (Nat.le_refl _) _)
theorem cell_new (w : World) (v : Value) (t : TypeId) : (w.alloc (.cells #[v] t)).cell? ⟨w.heap.size, 0, none⟩ = some v := by
  simp
theorem below_of_drewN {w : World} (m : Nat) : Below w.heap.size w (w.drewN m) := below_drewN (Below.refl _ _) m
theorem below_of_quiet {w w' : World} (h : ∃ m, w' = w.drewN m) : Below w.heap.size w w' := by obtain ⟨m, rfl⟩ := h; exact below_of_drewN m
/-- A literal that lies at a new block's head. -/
theorem Ints.lit (w : World) (l : List Int) (e : TypeId) (h : l.length ≤ maxLen) : Ints (w.alloc (.cells (l.map (Value.int .i64)).toArray e)) (some ⟨w.heap.size, 0, none⟩) l.length l.length l := by
  refine ⟨rfl, Nat.le_refl _, h, fun h => (by cases h), w.heap.size, 0, fun _ => rfl, fun i hi => ?_⟩
  rw [cell_of_row (w.alloc _) w.heap.size (0 + i) _ e (0, 0) (heap_alloc_new w _)]
  simp [hi]
theorem Ints.lit1 (w : World) (x : Int) (e : TypeId) : Ints (w.alloc (.cells #[.int .i64 x] e)) (some ⟨w.heap.size, 0, none⟩) 1 1 [x] := Ints.lit w [x] e (by simp [maxLen])
theorem Ints.nil0 (w : World) : Ints w none 0 0 [] := ⟨rfl, Nat.le_refl _, Nat.zero_le _, fun _ => rfl, 0, 0, fun h => absurd h (by omega), fun i hi => absurd hi (by omega)⟩
/-- Out of an argument's row (its spare room struck). -/
theorem Ints.of_row {w : World} {x : Addr} {n c : Nat} {zs : List Int} (hl : n ≤ c) (hm : c ≤ maxLen) (hz : zs.length = c) (hcell : ∀ i, i < zs.length → w.cell? (x.add i) = some (.int .i64 (zs.getD i 0))) : Ints w (some x) n c (zs.take n) := by
  by_cases h0 : 0 < zs.length
  · obtain ⟨b, off, rfl, hc⟩ := ints_at hcell h0
    refine ⟨by simp; omega, hl, hm, fun h => (by cases h), b, off, fun _ => rfl, fun i hi => ?_⟩
    rw [hc i (by omega)]
    simp [List.getD, hi]
  · exact ⟨by simp; omega, hl, hm, fun h => (by cases h), 0, 0, fun h => absurd h (by omega), fun i hi => absurd hi (by omega)⟩
/-- All numbers of a list lie in a range. -/
def allB (l : List Int) (lo hi : Int) : Bool := l.all fun x => decide (lo ≤ x ∧ x ≤ hi)
theorem allB_iff (l : List Int) (lo hi : Int) : allB l lo hi = true ↔ ∀ x ∈ l, lo ≤ x ∧ x ≤ hi := by simp [allB]
theorem getD_mem (l : List Int) (k : Nat) (h : k < l.length) : l.getD k 0 ∈ l := by
  simp [List.getD, h]
theorem mem_getD (l : List Int) (x : Int) (h : x ∈ l) : ∃ k, k < l.length ∧ x = l.getD k 0 := by
  obtain ⟨k, hk, rfl⟩ := List.getElem_of_mem h
  exact ⟨k, hk, by simp [List.getD, hk]⟩
theorem allB_no (l : List Int) (lo hi : Int) (k : Nat) (h : k < l.length) (hx : ¬ (lo ≤ l.getD k 0 ∧ l.getD k 0 ≤ hi)) : allB l lo hi = false := by
  rw [Bool.eq_false_iff]; intro H; exact hx ((allB_iff ..).1 H _ (getD_mem l k h))
theorem allB_yes (l : List Int) (lo hi : Int) (h : ∀ j, j < l.length → lo ≤ l.getD j 0 ∧ l.getD j 0 ≤ hi) : allB l lo hi = true := by
  rw [allB_iff]; intro x hx; obtain ⟨k, hk, rfl⟩ := mem_getD l x hx; exact h k hk
set_option maxHeartbeats 400000 in
theorem l1All_any (a : Option Addr) (n c : Nat) (l : List Int) (lo hi : Int) (w : World) (h : Ints w a n c l) :
    Calls Try.prog 86 #[.slice a n c, .int .i64 lo, .int .i64 hi] w fun e w' => e = .returned (.bool (allB l lo hi)) ∧ ∃ m, w' = w.drewN m := by
  have hn := h.le
  go_enter Try.func86, Try.ntmps86
  go_wp2
  go_loop [11] (fun v => ∃ k : Nat, k ≤ n ∧ (∀ j, j < k → lo ≤ l.getD j 0 ∧ l.getD j 0 ≤ hi) ∧ v = .int .i64 k) (fun v => n - (intOf v).toNat)
  case atStart => exact ⟨0, Nat.zero_le _, fun j hj => absurd hj (by omega), rfl⟩
  case round =>
    obtain ⟨k, hk, hj, rfl⟩ := hrel
    have HJ := Lib.hid hj
    clear hj
    by_cases hlt : k < n
    · obtain ⟨g, o, rfl, hcell⟩ := h.at k hlt
      obtain ⟨x, hx⟩ : ∃ x, x = l.getD k 0 := ⟨_, rfl⟩
      rw [← hx] at hcell
      have HX := Lib.hid hx
      clear hx
      by_cases h1 : lo ≤ x
      · by_cases h2 : x ≤ hi
        · go_wp2
          go_round
          case rel => exact ⟨k + 1, by omega, fun j hj => by
            by_cases e : j = k
            · subst e; rw [← HX.out]; exact ⟨h1, h2⟩
            · exact HJ.out j (by omega), by go_num⟩
          case measure => simp [intOf]; omega
        · have HR := Lib.hid (allB_no l lo hi k (by rw [← h.len]; exact hlt) (by rw [← HX.out]; omega))
          go_wp2
          go_ret
          exact ⟨ret_bool HR.out.symm, 0, rfl⟩
      · have HR := Lib.hid (allB_no l lo hi k (by rw [← h.len]; exact hlt) (by rw [← HX.out]; omega))
        go_wp2
        go_ret
        exact ⟨ret_bool HR.out.symm, 0, rfl⟩
    · have HR := Lib.hid (allB_yes l lo hi (fun j hj => HJ.out j (by have := h.len; omega)))
      go_wp2
      go_ret
      exact ⟨ret_bool HR.out.symm, 0, rfl⟩
end Go.Proofs.Ytmbheimjphhamaa
namespace Go.Proofs.Ytmbheimjphhamaa
open Go.RowKit
/-- The block that a row with room may be written in. -/
def rowOf (a : Option Addr) (c : Nat) : Option Nat := if c = 0 then none else a.map Addr.block
/-- The slice (a, n, c) of elements of sz cells reads as the cells xs. -/
def RowC (w : World) (a : Option Addr) (n c sz : Nat) (xs : List Value) : Prop :=
  xs.length = n * sz ∧ n ≤ c ∧ c ≤ maxLen ∧ (a = none → c = 0) ∧ ∃ g o, (0 < n → a = some ⟨g, o, none⟩) ∧ ∀ i u, xs[i]? = some u → w.cell? ⟨g, o + i, none⟩ = some u
/-- The slice (a, n, c) owns the cells xs, in a block from b on (if it has any room at all). -/
def OwnC (w : World) (b : Nat) (a : Option Addr) (n c e sz : Nat) (xs : List Value) : Prop :=
  xs.length = n * sz ∧ n ≤ c ∧ c ≤ maxLen ∧ (a = none → c = 0) ∧
  (0 < c → ∃ g cur, a = some ⟨g, 0, none⟩ ∧ b ≤ g ∧ w.heap[g]? = some (.cells cur e (0, 0)) ∧ cur.size = c * sz ∧ cur.toList.take (n * sz) = xs)
theorem OwnC.below {w w' b a n c e sz xs} (h : OwnC w b a n c e sz xs) (hb : Below w.heap.size w w') : OwnC w' b a n c e sz xs :=
  ⟨h.1, h.2.1, h.2.2.1, h.2.2.2.1, fun hc => by
    obtain ⟨g, cur, h1, h2, h3, h4⟩ := h.2.2.2.2 hc
    exact ⟨g, cur, h1, h2, by rw [hb.block g (Array.getElem?_eq_some_iff.1 h3).1]; exact h3, h4⟩⟩
theorem OwnC.lower {w b b' a n c e sz xs} (h : OwnC w b a n c e sz xs) (hb : b' ≤ b) : OwnC w b' a n c e sz xs :=
  ⟨h.1, h.2.1, h.2.2.1, h.2.2.2.1, fun hc => by
    obtain ⟨g, cur, h1, h2, h3⟩ := h.2.2.2.2 hc
    exact ⟨g, cur, h1, by omega, h3⟩⟩
/-- Two rows with room lie in different blocks. -/
def Apart (a : Option Addr) (c : Nat) (a' : Option Addr) (c' : Nat) : Prop := ∀ x y, 0 < c → 0 < c' → a = some x → a' = some y → x.block ≠ y.block
theorem Apart.symm {a c a' c'} (h : Apart a c a' c') : Apart a' c' a c := fun x y h1 h2 hx hy => (h y x h2 h1 hy hx).symm
theorem rowOf_ne {g : Nat} {a' : Option Addr} {c' : Nat} (h : ∀ y, 0 < c' → a' = some y → g ≠ y.block) : some g ≠ rowOf a' c' := by
  unfold rowOf
  intro e
  split at e
  · cases e
  · cases a' with
    | none => simp at e
    | some y => simp at e; exact h y (by omega) rfl e
theorem OwnC.grown {w w' : World} {b a n c e sz xs} {a' : Option Addr} {c' : Nat} (h : OwnC w b a n c e sz xs) (hg : w.grownBy w' (rowOf a' c')) (hd : Apart a c a' c') : OwnC w' b a n c e sz xs :=
  ⟨h.1, h.2.1, h.2.2.1, h.2.2.2.1, fun hc => by
    obtain ⟨g, cur, h1, h2, h3, h4⟩ := h.2.2.2.2 hc
    exact ⟨g, cur, h1, h2, by rw [hg.block g (Array.getElem?_eq_some_iff.1 h3).1 (rowOf_ne fun y hc' hy => hd _ _ hc hc' h1 hy)]; exact h3, h4⟩⟩
theorem OwnC.range {w b a n c e sz xs} (h : OwnC w b a n c e sz xs) : ∀ x, 0 < c → a = some x → b ≤ x.block ∧ x.block < w.heap.size := by
  intro x hc hx
  obtain ⟨g, cur, h1, h2, h3, _⟩ := h.2.2.2.2 hc
  rw [h1] at hx; cases hx
  exact ⟨h2, (Array.getElem?_eq_some_iff.1 h3).1⟩
theorem OwnC.apart {w w' : World} {b b' a n c e sz xs a' n' c' e' sz' xs'} (h : OwnC w b a n c e sz xs) (h' : OwnC w' b' a' n' c' e' sz' xs') (hb : w.heap.size ≤ b') : Apart a c a' c' := fun x y hc hc' hx hy => by
  have := (h.range x hc hx).2; have := (h'.range y hc' hy).1; omega
theorem OwnC.nil0 (w : World) (b e sz : Nat) (a : Option Addr) : OwnC w b a 0 0 e sz [] := ⟨by simp, Nat.le_refl _, Nat.zero_le _, fun _ => rfl, fun h => absurd h (by omega)⟩
theorem OwnC.lit (w : World) (b n e sz : Nat) (xs : List Value) (hb : b ≤ w.heap.size) (hn : xs.length = n * sz) (hm : n ≤ maxLen) : OwnC (w.alloc (.cells xs.toArray e)) b (some ⟨w.heap.size, 0, none⟩) n n e sz xs :=
  ⟨hn, Nat.le_refl _, hm, fun h => (by cases h), fun _ => ⟨w.heap.size, xs.toArray, rfl, hb, heap_alloc_new w _, by simp [hn], by rw [← hn]; simp⟩⟩
theorem OwnC.of_owns {w b e sz v n xs} (h : w.ownsRow b e sz v n xs) : ∃ a c, v = .slice a n c ∧ OwnC w b a n c e sz xs := by
  rcases h.2 with ⟨h1, h2⟩ | ⟨g, cap, cur, h1, h2, h3, h4, h5, h6, h7⟩
  · subst h2
    have : xs = [] := List.eq_nil_of_length_eq_zero (by simpa using h.1)
    subst this
    exact ⟨_, _, h1, OwnC.nil0 _ _ _ _ _⟩
  · exact ⟨_, _, h1, h.1, h4, h5, fun h => (by cases h), fun _ => ⟨g, cur, rfl, h2, h3, h6, h7⟩⟩
theorem OwnC.owns {w b a n c e sz xs} (h : OwnC w b a n c e sz xs) (hc : 0 < c) : w.ownsRow b e sz (.slice a n c) n xs := by
  obtain ⟨g, cur, h1, h2, h3, h4, h5⟩ := h.2.2.2.2 hc
  exact ⟨h.1, .inr ⟨g, c, cur, by rw [h1], h2, h3, h.2.1, h.2.2.1, h4, h5⟩⟩
theorem OwnC.row {w b a n c e sz xs} (h : OwnC w b a n c e sz xs) : RowC w a n c sz xs := by
  refine ⟨h.1, h.2.1, h.2.2.1, h.2.2.2.1, ?_⟩
  by_cases hc : 0 < c
  · obtain ⟨g, cur, h1, h2, h3, h4, h5⟩ := h.2.2.2.2 hc
    refine ⟨g, 0, fun _ => h1, fun i u hu => ?_⟩
    rw [Nat.zero_add, cell_of_row w g i cur e (0, 0) h3]
    rw [← h5, List.getElem?_take] at hu
    split at hu
    · simpa using hu
    · cases hu
  · have h1 := h.1
    obtain rfl : n = 0 := by have := h.2.1; omega
    have : xs = [] := List.eq_nil_of_length_eq_zero (by simpa using h1)
    subst this
    exact ⟨0, 0, fun h => absurd h (by omega), fun i u hu => by simp at hu⟩
/-- A store into an owned row: its cell k. -/
theorem OwnC.atC {w b a n c e sz xs} (h : OwnC w b a n c e sz xs) (k : Nat) (hk : k < n * sz) : ∃ g, a = some ⟨g, 0, none⟩ ∧ b ≤ g ∧ g < w.heap.size ∧ (∃ u, xs[k]? = some u ∧ w.cell? ⟨g, k, none⟩ = some u) ∧ w.frozen? ⟨g, k, none⟩ = false ∧
    ∀ u, OwnC (w.setCell ⟨g, k, none⟩ u) b (some ⟨g, 0, none⟩) n c e sz (xs.set k u) := by
  have hn : 0 < n := by cases n with
    | zero => simp at hk
    | succ n => omega
  have hc : 0 < c := by have := h.2.1; omega
  obtain ⟨g, cur, h1, h2, h3, h4, h5⟩ := h.2.2.2.2 hc
  have ho := h.owns hc
  subst h1
  have hx : k < xs.length := by rw [h.1]; exact hk
  refine ⟨g, rfl, h2, (Array.getElem?_eq_some_iff.1 h3).1, ⟨xs[k], by simp [hx], by rw [ho.cellAt k hk]; simp [hx]⟩, ho.frozenAt k, fun u => ?_⟩
  obtain ⟨a', c', e', ho'⟩ := OwnC.of_owns (ho.stored k u).1
  cases e'
  exact ho'
theorem RowC.below {w w' a n c sz xs} (h : RowC w a n c sz xs) (hb : Below w.heap.size w w') : RowC w' a n c sz xs := by
  obtain ⟨h1, h2, h3, h4, g, o, h5, h6⟩ := h
  exact ⟨h1, h2, h3, h4, g, o, h5, fun i u hu => by rw [hb.cell (World.block_lt_of_cell? w _ (h6 i u hu))]; exact h6 i u hu⟩
theorem OwnC.prefix_row {w b a n m c e sz xs xs'} (h : OwnC w b a (n + m) c e sz (xs ++ xs')) (hx : xs.length = n * sz) : RowC w a n c sz xs := by
  obtain ⟨h1, h2, h3, h4, g, o, h5, h6⟩ := h.row
  exact ⟨hx, by omega, h3, h4, g, o, fun hn => h5 (by omega), fun i u hu => h6 i u (by
    have hi := (List.getElem?_eq_some_iff.1 hu).1
    rw [List.getElem?_append_left hi]; exact hu)⟩
theorem RowC.keep {w w' a n c sz xs} (h : RowC w a n c sz xs) (hg : w.grownBy w' none) : RowC w' a n c sz xs := by
  obtain ⟨h1, h2, h3, h4, g, o, h5, h6⟩ := h
  exact ⟨h1, h2, h3, h4, g, o, h5, fun i u hu => hg.cell (h6 i u hu) (by simp)⟩
theorem grownBy_some {w w' : World} (h : w.grownBy w' none) (r : Option Nat) : w.grownBy w' r := ⟨h.os, h.tape, h.output, h.size, fun k hk _ => h.block k hk (by simp)⟩
/-- APPEND, WHATEVER THE SHAPES: an owned row, a row that is read (nil, empty or not). The new row is owned, the old one still reads. -/
theorem run_app {P : Program} (w : World) (t ty : TypeId)
    (b e : Nat) (i : TypeInfo) (z : Value) (sz bytes : Nat) (ht : P.underlying t = some (.slice e)) (hi : P.info? e = some i) (hz : i.zero = some z)
    (hsize : i.size = sz) (hby : i.bytes = bytes) (hzs : z.cells.size = sz) (hsz : 0 < sz)
    (a : Option Addr) (n c : Nat) (xs : List Value) (hown : OwnC w b a n c e sz xs)
    (a' : Option Addr) (m c' : Nat) (xs' : List Value) (hrow : RowC w a' m c' sz xs') (h1 : ∀ u ∈ xs', u.oneCell' = true)
    (hbytes : (n + m) * bytes ≤ 140737488355328) (hmax : n + m ≤ maxLen) (hbase : b ≤ w.heap.size) :
    ∃ a2 c2 w', (Builtin.append_ #[t, t] ty #[.slice a n c, .slice a' m c']).run P w = .ok (.slice a2 (n + m) c2) w' ∧ OwnC w' b a2 (n + m) c2 e sz (xs ++ xs') ∧ w.grownBy w' (rowOf a c) ∧ RowC w' a n c sz xs := by
  by_cases hm : m = 0
  · subst hm
    have hx' : xs' = [] := List.eq_nil_of_length_eq_zero (by simpa using hrow.1)
    subst hx'
    have hnc := hown.2.1
    refine ⟨a, c, w, ?_, by simpa using hown, World.grownBy.refl _ _, hown.row⟩
    cases a' with
    | none => cases a <;> simp [Builtin.append_, run_underlying ht, sizeOf, typeInfo, hi, Builtin.lenOf, Builtin.firstCells, hnc, storeCells]
    | some y =>
      have hf := run_firstCells_some (P := P) w i.size 0 y 0 c' [] (by simp) (fun j u hu => by simp at hu)
      cases a <;> simp [Builtin.append_, run_underlying ht, sizeOf, typeInfo, hi, Builtin.lenOf, hf, hnc, storeCells]
  · obtain ⟨hr1, hr2, hr3, hr4, g', o', hr5, hr6⟩ := hrow
    obtain rfl := hr5 (by omega)
    have hadd : ∀ (g o j : Nat), (⟨g, o, none⟩ : Addr).add j = ⟨g, o + j, none⟩ := fun g o j => by unfold Addr.add; split <;> simp_all
    have hnews : ∀ j u, xs'[j]? = some u → w.cell? ((⟨g', o', none⟩ : Addr).add j) = some u := fun j u hu => by rw [hadd]; exact hr6 j u hu
    by_cases hc : 0 < c
    · obtain ⟨g, cur, hag, hbg, hgg, hcs, hct⟩ := hown.2.2.2.2 hc
      have hob := hown.owns hc
      have hro : rowOf a c = some g := by unfold rowOf; rw [if_neg (by omega), hag]; rfl
      subst hag
      by_cases hroom : n + m ≤ c
      · obtain ⟨w', hrun, r1, r2⟩ := run_append_fits (P := P) w b t ty e i sz ht hi hsize g n c xs hob ⟨g', o', none⟩ m c' xs' hr1 hnews h1 hroom
        obtain ⟨a2, c2, e2, h2⟩ := OwnC.of_owns r1
        cases e2
        exact ⟨_, _, w', hrun, h2, by rw [hro]; exact r2, h2.prefix_row hown.1⟩
      · obtain ⟨v', w', hrun, r1, r2⟩ := run_append_arg_grows (P := P) w t ty e i z sz bytes ht hi hz hsize hby hzs hsz ⟨g, 0, none⟩ n c xs hown.1 (fun j u hu => by
          obtain ⟨q1, q2, q3, q4, gg, oo, q5, q6⟩ := hown.row
          have hn0 : 0 < n := by
            have := (List.getElem?_eq_some_iff.1 hu).1
            rw [hown.1] at this
            cases n with
            | zero => simp at this
            | succ n => omega
          have := q5 hn0
          cases this
          rw [hadd]; exact q6 j u hu) ⟨g', o', none⟩ m c' xs' hr1 hnews (by omega) hmax hbytes
        obtain ⟨a2, c2, rfl, h2⟩ := OwnC.of_owns r1
        exact ⟨_, _, w', hrun, h2.lower hbase, grownBy_some r2 _, hown.row.keep r2⟩
    · have hn0 : n = 0 := by have := hown.2.1; omega
      have hc0 : c = 0 := by omega
      subst hn0; subst hc0
      have hxe : xs = [] := List.eq_nil_of_length_eq_zero (by simpa using hown.1)
      subst hxe
      cases a with
      | none =>
        obtain ⟨v', w', hrun, r1, r2, _⟩ := run_append_own (P := P) w w.heap.size t ty e i z sz bytes ht hi hz hsize hby hzs hsz (.slice none 0 0) 0 [] (World.ownsRow_nil w _ e sz) ⟨g', o', none⟩ m c' xs' hr1 hnews h1 hmax hbytes (Nat.le_refl _)
        obtain ⟨a2, c2, rfl, h2⟩ := OwnC.of_owns r1
        exact ⟨_, _, w', hrun, h2.lower hbase, by unfold rowOf; exact r2, hown.row.keep r2⟩
      | some y =>
        obtain ⟨v', w', hrun, r1, r2⟩ := run_append_arg_grows (P := P) w t ty e i z sz bytes ht hi hz hsize hby hzs hsz y 0 0 [] (by simp) (fun j u hu => by simp at hu) ⟨g', o', none⟩ m c' xs' hr1 hnews (by omega) hmax hbytes
        obtain ⟨a2, c2, rfl, h2⟩ := OwnC.of_owns r1
        exact ⟨_, _, w', hrun, h2.lower hbase, grownBy_some r2 _, hown.row.keep r2⟩
/-- The slice (a, n, c) owns the list l of integers in blocks from b on. -/
def Own (w : World) (b : Nat) (a : Option Addr) (n c : Nat) (l : List Int) : Prop := OwnC w b a n c 3 1 (l.map (Value.int .i64))
theorem Own.len {w b a n c l} (h : Own w b a n c l) : n = l.length := by have := h.1; simpa using this.symm
theorem Own.cap {w b a n c l} (h : Own w b a n c l) : n ≤ c ∧ c ≤ maxLen := ⟨h.2.1, h.2.2.1⟩
theorem Ints.rowC {w a n c l} (h : Ints w a n c l) : RowC w a n c 1 (l.map (Value.int .i64)) := by
  obtain ⟨h1, h2, h3, h4, g, o, h5, h6⟩ := h
  refine ⟨by simp [h1], h2, h3, h4, g, o, h5, fun i u hu => ?_⟩
  simp only [List.getElem?_map, Option.map_eq_some_iff] at hu
  obtain ⟨x, hx, rfl⟩ := hu
  have hi : i < l.length := (List.getElem?_eq_some_iff.1 hx).1
  rw [h6 i (by omega)]
  simp [List.getD, hx]
theorem Ints.of_rowC {w a n c} {l : List Int} (h : RowC w a n c 1 (l.map (Value.int .i64))) : Ints w a n c l := by
  obtain ⟨h1, h2, h3, h4, g, o, h5, h6⟩ := h
  have hn : n = l.length := by simpa using h1.symm
  refine ⟨hn, h2, h3, h4, g, o, h5, fun i hi => ?_⟩
  have hl : i < l.length := by omega
  exact h6 i _ (by simp [List.getD, hl])
theorem Ints.cells {w a n c l} (h : Ints w a n c l) (hn : 0 < n) : ∃ g o, a = some ⟨g, o, none⟩ ∧ ∀ k, k < n → w.cell? ⟨g, o + k, none⟩ = some (.int .i64 (l.getD k 0)) := by
  obtain ⟨_, _, _, _, g, o, h1, h2⟩ := h
  exact ⟨g, o, h1 hn, h2⟩
theorem Ints.cellsAt {w g o n c l} (h : Ints w (some ⟨g, o, none⟩) n c l) : ∀ k, k < n → w.cell? ⟨g, o + k, none⟩ = some (.int .i64 (l.getD k 0)) := by
  intro k hk
  obtain ⟨g', o', e, h'⟩ := h.cells (by omega)
  cases e
  exact h' k hk
theorem Own.ints {w b a n c l} (h : Own w b a n c l) : Ints w a n c l := by
  obtain ⟨h1, h2, h3, h4, g, o, h5, h6⟩ := h.row
  refine ⟨h.len, h2, h3, h4, g, o, h5, fun i hi => ?_⟩
  have hl : i < l.length := by have := h.len; omega
  exact h6 i _ (by simp [List.getD, hl])
theorem Own.below {w w' b a n c l} (h : Own w b a n c l) (hb : Below w.heap.size w w') : Own w' b a n c l := OwnC.below h hb
theorem Own.lower {w b b' a n c l} (h : Own w b a n c l) (hb : b' ≤ b) : Own w b' a n c l := OwnC.lower h hb
theorem Own.drewN {w b a n c l} (h : Own w b a n c l) (m : Nat) : Own (w.drewN m) b a n c l := h.below (below_of_drewN m)
theorem Own.drew {w b a n c l} (h : Own w b a n c l) : Own w.drew b a n c l := h.below ((Below.refl _ _).drew)
theorem Ints.drew {w a n c l} (h : Ints w a n c l) : Ints w.drew a n c l := h.below ((Below.refl _ _).drew)
theorem Own.alloc {w b a n c l} (h : Own w b a n c l) (ob : Obj) : Own (w.alloc ob) b a n c l := h.below ((Below.refl _ _).alloc (Nat.le_refl _) _)
theorem Own.nil0 (w : World) (b : Nat) (a : Option Addr) : Own w b a 0 0 [] := OwnC.nil0 w b 3 1 a
theorem Own.grown {w w' : World} {b a n c l} {a' : Option Addr} {c' : Nat} (h : Own w b a n c l) (hg : w.grownBy w' (rowOf a' c')) (hd : Apart a c a' c') : Own w' b a n c l := OwnC.grown h hg hd
theorem Own.range {w b a n c l} (h : Own w b a n c l) : ∀ x, 0 < c → a = some x → b ≤ x.block ∧ x.block < w.heap.size := OwnC.range h
theorem Own.apart {w w' : World} {b b' a n c l a' n' c' l'} (h : Own w b a n c l) (h' : Own w' b' a' n' c' l') (hb : w.heap.size ≤ b') : Apart a c a' c' := OwnC.apart h h' hb
/-- A store into an owned row. -/
theorem Own.at {w b a n c l} (h : Own w b a n c l) (k : Nat) (hk : k < n) : ∃ g, a = some ⟨g, 0, none⟩ ∧ b ≤ g ∧ g < w.heap.size ∧ w.cell? ⟨g, k, none⟩ = some (.int .i64 (l.getD k 0)) ∧ w.frozen? ⟨g, k, none⟩ = false ∧
    ∀ x, Own (w.setCell ⟨g, k, none⟩ (.int .i64 x)) b (some ⟨g, 0, none⟩) n c (l.set k x) := by
  obtain ⟨g, rfl, hb, hg, ⟨u, hu, hc⟩, hf, hs⟩ := OwnC.atC h k (by omega)
  have hl : k < l.length := by have := h.len; omega
  refine ⟨g, rfl, hb, hg, ?_, hf, fun x => by unfold Own; rw [List.map_set]; exact hs _⟩
  rw [hc, ← hu]
  simp [List.getD, hl]
theorem Own.lit (w : World) (b : Nat) (l : List Int) (hb : b ≤ w.heap.size) (h : l.length ≤ maxLen) : Own (w.alloc (.cells (l.map (Value.int .i64)).toArray 3)) b (some ⟨w.heap.size, 0, none⟩) l.length l.length l :=
  OwnC.lit w b l.length 3 1 _ hb (by simp) h
theorem Own.of_owns {w b v n} {l : List Int} (h : w.ownsRow b 3 1 v n (l.map (Value.int .i64))) : ∃ a c, v = .slice a n c ∧ Own w b a n c l := OwnC.of_owns h
/-- What is read stays where another row is written. -/
theorem Ints.grown {w w' : World} {a n c l} {a' : Option Addr} {c' : Nat} (h : Ints w a n c l) (hg : w.grownBy w' (rowOf a' c')) (hd : ∀ x y, 0 < n → 0 < c' → a = some x → a' = some y → x.block ≠ y.block) : Ints w' a n c l := by
  obtain ⟨h1, h2, h3, hn, g, o, h4, h5⟩ := h
  exact ⟨h1, h2, h3, hn, g, o, h4, fun i hi => hg.cell (h5 i hi) (rowOf_ne fun y hc hy => hd ⟨g, o, none⟩ y (by omega) hc (h4 (by omega)) hy)⟩
theorem Ints.range {w a n c l} (h : Ints w a n c l) : ∀ x, 0 < n → a = some x → 0 ≤ x.block ∧ x.block < w.heap.size := by
  intro x hn hx
  obtain ⟨g, o, hg, h1⟩ := h.at 0 hn
  rw [hg] at hx
  cases hx
  exact ⟨Nat.zero_le _, World.block_lt_of_cell? w _ h1⟩
theorem Ints.apart {w w' : World} {b' a n c l a' n' c' l'} (h : Ints w a n c l) (h' : Own w' b' a' n' c' l') (hb : w.heap.size ≤ b') : ∀ x y, 0 < n → 0 < c' → a = some x → a' = some y → x.block ≠ y.block := fun x y hn hc hx hy => by
  have := (h.range x hn hx).2; have := (h'.range y hc hy).1; omega
theorem getD_set (l : List Int) (k i : Nat) (x : Int) : (l.set k x).getD i 0 = if i = k ∧ k < l.length then x else l.getD i 0 := by
  simp only [List.getD, List.getElem?_set]
  by_cases h : k = i
  · subst h
    by_cases h2 : k < l.length
    · simp [h2]
    · simp [h2]
  · rw [if_neg h, if_neg (by omega)]
theorem info_int : (Try.prog.info? 3).map (fun i => (i.zero, i.size, i.bytes)) = some (some (.int .i64 0), 1, 8) := by kernel_rfl
theorem below_grownBy {B : Nat} {w w' : World} {a : Option Addr} {c : Nat} (hg : w.grownBy w' (rowOf a c)) (hB : B ≤ w.heap.size) (h : ∀ x, 0 < c → a = some x → B ≤ x.block) : Below B w w' :=
  (Below.refl _ _).grown hg hB (fun k hk => by
    unfold rowOf at hk
    split at hk
    · cases hk
    · cases a with
      | none => simp at hk
      | some x => simp at hk; subst hk; exact h x (by omega) rfl)
/-- Append on integers: what it leaves. -/
theorem run_appI (w : World) (ty : TypeId) (b : Nat) (a : Option Addr) (n c : Nat) (l : List Int) (hown : Own w b a n c l) (a' : Option Addr) (m c' : Nat) (l' : List Int) (hrow : Ints w a' m c' l') (hlen : n + m ≤ 1000000000000) (hbase : b ≤ w.heap.size) :
    ∃ a2 c2 w', (Builtin.append_ #[26, 26] ty #[.slice a n c, .slice a' m c']).run Try.prog w = .ok (.slice a2 (n + m) c2) w' ∧ Own w' b a2 (n + m) c2 (l ++ l') ∧ Below b w w' ∧ w.grownBy w' (rowOf a c) ∧ Ints w' a n c l := by
  obtain ⟨i0, hi, hz0, hz1, hz2⟩ := info_parts info_int
  obtain ⟨a2, c2, w', hrun, h1, h2, h3⟩ := run_app w 26 ty b 3 i0 (.int .i64 0) 1 8 Try.underlying26 hi hz0 hz1 hz2 rfl (by decide) a n c _ hown a' m c' _ hrow.rowC (by
    intro u hu
    simp only [List.mem_map] at hu
    obtain ⟨y, _, rfl⟩ := hu
    rfl) (by omega) (by unfold maxLen; omega) hbase
  exact ⟨a2, c2, w', hrun, by unfold Own; rw [List.map_append]; exact h1, below_grownBy h2 hbase (fun x hc hx => (hown.range x hc hx).1), h2, Ints.of_rowC h3⟩
theorem wp_appI (w : World) {o : Oper} {act : Act} {K : Act → World → Prop} {Q : Exit → Act → World → Prop} (s x : Operand)
    (ho : o.op = .call { callee := .builtin .append, args := #[s, x], argTypes := #[26, 26] })
    (b : Nat) (a : Option Addr) (n c : Nat) (l : List Int) (hs : act.eval s = .slice a n c) (hown : Own w b a n c l)
    (a' : Option Addr) (m c' : Nat) (l' : List Int) (hx : act.eval x = .slice a' m c') (hrow : Ints w a' m c' l')
    (hlen : n + m ≤ 1000000000000) (hbase : b ≤ w.heap.size)
    (h : ∀ a2 c2 w', Own w' b a2 (n + m) c2 (l ++ l') → Below b w w' → w.grownBy w' (rowOf a c) → Ints w' a n c l → K (act.put o.dst (.slice a2 (n + m) c2)) w') : o.wp Try.prog act w K Q := by
  obtain ⟨a2, c2, w', hrun, h1, h2, h3, h4⟩ := run_appI w o.type b a n c l hown a' m c' l' hrow hlen hbase
  unfold Oper.wp
  simp [execOp, ho, resolve, invoke, builtin, hs, hx, hrun, Result.andThen]
  exact h a2 c2 w' h1 h2 h3 h4
theorem wpList_appI (w : World) {ops : Array Oper} {rest : List Oper} {o : Oper} {act : Act} {Q : Exit → Act → World → Prop} (hgd : o.guard = none) (s x : Operand)
    (ho : o.op = .call { callee := .builtin .append, args := #[s, x], argTypes := #[26, 26] })
    (b : Nat) (a : Option Addr) (n c : Nat) (l : List Int) (hs : act.eval s = .slice a n c) (hown : Own w b a n c l)
    (a' : Option Addr) (m c' : Nat) (l' : List Int) (hx : act.eval x = .slice a' m c') (hrow : Ints w a' m c' l')
    (hlen : n + m ≤ 1000000000000) (hbase : b ≤ w.heap.size)
    (h : ∀ a2 c2 w', Own w' b a2 (n + m) c2 (l ++ l') → Below b w w' → w.grownBy w' (rowOf a c) → wpList Try.prog ops Q rest (act.put o.dst (.slice a2 (n + m) c2)) w') : wpList Try.prog ops Q (o :: rest) act w :=
  wpList_plain hgd fun _ hK => wp_appI w s x ho b a n c l hs hown a' m c' l' hx hrow hlen hbase fun a2 c2 w' h1 h2 h3 _ => hK _ _ (h a2 c2 w' h1 h2 h3)
end Go.Proofs.Ytmbheimjphhamaa
namespace Go.Proofs.Ytmbheimjphhamaa
open Go.RowKit
theorem enters {P : Program} {f : FuncId} {fn : Func} (hf : P.funcs[f]? = some fn) (hname : (fn.name == "runtime.NumGoroutine") = false) (hb : fn.body.isSome = true) (args : Array Value) (w : World) :
    (callFunc f args).run P w = .ok (.enter f args) w := by
  have h1 : fn.name ≠ "runtime.NumGoroutine" := by simpa using hname
  obtain ⟨c, hc⟩ := Option.isSome_iff_exists.1 hb
  simp [callFunc, hf, h1, hc]
theorem any_hit (l : List Int) (q : Int → Bool) (k : Nat) (h : k < l.length) (hq : q (l.getD k 0) = true) : l.any q = true := by
  rw [List.any_eq_true]; exact ⟨_, getD_mem l k h, hq⟩
theorem any_miss (l : List Int) (q : Int → Bool) (h : ∀ i, i < l.length → q (l.getD i 0) = false) : l.any q = false := by
  rw [List.any_eq_false]; intro x hx; obtain ⟨k, hk, rfl⟩ := mem_getD l x hx; rw [h k hk]; simp
end Go.Proofs.Ytmbheimjphhamaa
namespace Go.Proofs.Ytmbheimjphhamaa
open Go.RowKit
end Go.Proofs.Ytmbheimjphhamaa
namespace Go.Proofs.Ytmbheimjphhamaa
open Go.RowKit
theorem keepC {w w' : World} {p : Addr} {v : Value} (u : Below w.heap.size w w') (h : w.cell? p = some v) : w'.cell? p = some v := by
  rw [u.cell (World.block_lt_of_cell? w _ h)]; exact h
end Go.Proofs.Ytmbheimjphhamaa
namespace Go.Proofs.Ytmbheimjphhamaa
open Go.RowKit
/-- The blocks of a row that has room. -/
def foot (a : Option Addr) (c : Nat) : List Nat := (rowOf a c).toList
/-- Outside the blocks F all stays. -/
structure Only (F : List Nat) (w w' : World) : Prop where
  os : w'.os = w.os
  tape : w'.tape = w.tape
  output : w'.output = w.output
  size : w.heap.size ≤ w'.heap.size
  block : ∀ k, k < w.heap.size → k ∉ F → w'.heap[k]? = w.heap[k]?
theorem Only.refl (F : List Nat) (w : World) : Only F w w := ⟨rfl, rfl, rfl, Nat.le_refl _, fun _ _ _ => rfl⟩
theorem Only.trans {F w w1 w2} (h : Only F w w1) (k : Only F w1 w2) : Only F w w2 :=
  ⟨k.os.trans h.os, k.tape.trans h.tape, k.output.trans h.output, Nat.le_trans h.size k.size, fun i hi hn => (k.block i (Nat.lt_of_lt_of_le hi h.size) hn).trans (h.block i hi hn)⟩
theorem Only.more {F F' w w'} (h : Only F w w') (hs : ∀ k ∈ F, k ∈ F') : Only F' w w' :=
  ⟨h.os, h.tape, h.output, h.size, fun i hi hn => h.block i hi (fun hm => hn (hs i hm))⟩
theorem Only.of_grown {w w' : World} {a : Option Addr} {c : Nat} (h : w.grownBy w' (rowOf a c)) : Only (foot a c) w w' :=
  ⟨h.os, h.tape, h.output, h.size, fun i hi hn => h.block i hi (fun e => hn (by unfold foot; rw [← e]; simp))⟩
theorem Only.of_below {F : List Nat} {w w' : World} (h : Below w.heap.size w w') : Only F w w' :=
  ⟨h.os, h.tape, h.output, h.size, fun i hi _ => h.block i hi⟩
theorem Only.below {F : List Nat} {w w' : World} {B : Nat} (h : Only F w w') (hB : B ≤ w.heap.size) (hF : ∀ k ∈ F, B ≤ k) : Below B w w' :=
  ⟨h.os, h.tape, h.output, h.size, fun i hi => h.block i (by omega) (fun hm => by have := hF i hm; omega)⟩
theorem mem_foot {a : Option Addr} {c k : Nat} (h : k ∈ foot a c) : ∃ x, a = some x ∧ 0 < c ∧ k = x.block := by
  unfold foot rowOf at h
  split at h
  · simp at h
  · cases a with
    | none => simp at h
    | some x => simp at h; exact ⟨x, rfl, by omega, h⟩
theorem foot_mem {x : Addr} {c : Nat} (h : 0 < c) : x.block ∈ foot (some x) c := by
  unfold foot rowOf
  rw [if_neg (by omega)]
  simp
theorem OwnC.feet {w b a n c e sz xs} (h : OwnC w b a n c e sz xs) : ∀ k ∈ foot a c, b ≤ k ∧ k < w.heap.size := fun k hk => by
  obtain ⟨x, hx, hc, rfl⟩ := mem_foot hk
  exact h.range x hc hx
theorem OwnC.only {F : List Nat} {w w' : World} {b a n c e sz xs} (h : OwnC w b a n c e sz xs) (ho : Only F w w') (hd : ∀ k ∈ foot a c, k ∉ F) : OwnC w' b a n c e sz xs :=
  ⟨h.1, h.2.1, h.2.2.1, h.2.2.2.1, fun hc => by
    obtain ⟨g, cur, h1, h2, h3, h4⟩ := h.2.2.2.2 hc
    exact ⟨g, cur, h1, h2, by rw [ho.block g (Array.getElem?_eq_some_iff.1 h3).1 (hd g (by rw [h1]; exact foot_mem hc))]; exact h3, h4⟩⟩
/-- No block of the one is a block of the other. -/
def Disj (F G : List Nat) : Prop := ∀ k ∈ F, k ∉ G
theorem Disj.symm {F G} (h : Disj F G) : Disj G F := fun k hk hf => h k hf hk
theorem Disj.of_rng {F G : List Nat} {a b c d : Nat} (hF : ∀ k ∈ F, a ≤ k ∧ k < b) (hG : ∀ k ∈ G, c ≤ k ∧ k < d) (h : b ≤ c ∨ d ≤ a) : Disj F G := fun k hk hg => by
  have := hF k hk; have := hG k hg; omega
theorem Apart.disj {a c a' c'} (h : Apart a c a' c') : Disj (foot a c) (foot a' c') := fun k hk hk' => by
  obtain ⟨x, hx, hc, rfl⟩ := mem_foot hk
  obtain ⟨y, hy, hc', e⟩ := mem_foot hk'
  exact h x y hc hc' hx hy e
theorem Disj.app {F G G'} (h : Disj F G) (h' : Disj F G') : Disj F (G ++ G') := fun k hk hm => by
  rcases List.mem_append.1 hm with hm | hm
  · exact h k hk hm
  · exact h' k hk hm
theorem Disj.nil_l (F : List Nat) : Disj [] F := fun _ hk => by cases hk
/-- The slice (a, n, c) of structs of k ints reads as the numbers l, one struct behind the other. -/
def Flat (k : Nat) (w : World) (a : Option Addr) (n c : Nat) (l : List Int) : Prop := RowC w a n c k (l.map (Value.int .i64))
/-- It is the call's own (e: the type of its elements), in blocks from b on. -/
def OwnF (k e : Nat) (w : World) (b : Nat) (a : Option Addr) (n c : Nat) (l : List Int) : Prop := OwnC w b a n c e k (l.map (Value.int .i64))
theorem Flat.len {k w a n c l} (h : Flat k w a n c l) : l.length = n * k := by have := h.1; simpa using this
theorem Flat.cap {k w a n c l} (h : Flat k w a n c l) : n ≤ c ∧ c ≤ maxLen := ⟨h.2.1, h.2.2.1⟩
theorem Flat.le {k w a n c l} (h : Flat k w a n c l) : (n : Int) ≤ 9223372036854775807 := by
  have := h.2.1; have := h.2.2.1; unfold maxLen at this; omega
theorem Flat.below {k w w' a n c l} (h : Flat k w a n c l) (hb : Below w.heap.size w w') : Flat k w' a n c l := RowC.below h hb
theorem Flat.alloc {k w a n c l} (h : Flat k w a n c l) (o : Obj) : Flat k (w.alloc o) a n c l := h.below ((Below.refl _ _).alloc (Nat.le_refl _) _)
theorem Flat.drewN {k w a n c l} (h : Flat k w a n c l) (m : Nat) : Flat k (w.drewN m) a n c l := h.below (below_of_drewN m)
theorem Flat.drew {k w a n c l} (h : Flat k w a n c l) : Flat k w.drew a n c l := h.below ((Below.refl _ _).drew)
theorem Flat.at {k w a n c l} (h : Flat k w a n c l) (hn : 0 < n) : ∃ g o, a = some ⟨g, o, none⟩ ∧ ∀ j, j < n * k → w.cell? ⟨g, o + j, none⟩ = some (.int .i64 (l.getD j 0)) := by
  have hl := h.len
  obtain ⟨_, _, _, _, g, o, h1, h2⟩ := h
  exact ⟨g, o, h1 hn, fun j hj => h2 j _ (by simp [List.getD, show j < l.length by omega])⟩
theorem OwnF.flat {k e w b a n c l} (h : OwnF k e w b a n c l) : Flat k w a n c l := h.row
theorem OwnF.len {k e w b a n c l} (h : OwnF k e w b a n c l) : l.length = n * k := h.flat.len
theorem OwnF.cap {k e w b a n c l} (h : OwnF k e w b a n c l) : n ≤ c ∧ c ≤ maxLen := h.flat.cap
theorem OwnF.below {k e w w' b a n c l} (h : OwnF k e w b a n c l) (hb : Below w.heap.size w w') : OwnF k e w' b a n c l := OwnC.below h hb
theorem OwnF.lower {k e w b b' a n c l} (h : OwnF k e w b a n c l) (hb : b' ≤ b) : OwnF k e w b' a n c l := OwnC.lower h hb
theorem OwnF.alloc {k e w b a n c l} (h : OwnF k e w b a n c l) (o : Obj) : OwnF k e (w.alloc o) b a n c l := h.below ((Below.refl _ _).alloc (Nat.le_refl _) _)
theorem OwnF.drew {k e w b a n c l} (h : OwnF k e w b a n c l) : OwnF k e w.drew b a n c l := h.below ((Below.refl _ _).drew)
theorem OwnF.drewN {k e w b a n c l} (h : OwnF k e w b a n c l) (m : Nat) : OwnF k e (w.drewN m) b a n c l := h.below (below_of_drewN m)
theorem OwnF.feet {k e w b a n c l} (h : OwnF k e w b a n c l) : ∀ k ∈ foot a c, b ≤ k ∧ k < w.heap.size := OwnC.feet h
theorem OwnF.only {F : List Nat} {k e : Nat} {w w' : World} {b a n c l} (h : OwnF k e w b a n c l) (ho : Only F w w') (hd : Disj (foot a c) F) : OwnF k e w' b a n c l := OwnC.only h ho hd
theorem Own.feet {w b a n c l} (h : Own w b a n c l) : ∀ k ∈ foot a c, b ≤ k ∧ k < w.heap.size := OwnC.feet h
theorem Own.only {F : List Nat} {w w' : World} {b a n c l} (h : Own w b a n c l) (ho : Only F w w') (hd : Disj (foot a c) F) : Own w' b a n c l := OwnC.only h ho hd
/-- A store into such a row: its cell j. -/
theorem OwnF.at {k e w b a n c l} (h : OwnF k e w b a n c l) (j : Nat) (hj : j < n * k) : ∃ g, a = some ⟨g, 0, none⟩ ∧ b ≤ g ∧ g < w.heap.size ∧ w.cell? ⟨g, j, none⟩ = some (.int .i64 (l.getD j 0)) ∧ w.frozen? ⟨g, j, none⟩ = false ∧
    ∀ x, OwnF k e (w.setCell ⟨g, j, none⟩ (.int .i64 x)) b (some ⟨g, 0, none⟩) n c (l.set j x) := by
  obtain ⟨g, rfl, hb, hg, ⟨u, hu, hc⟩, hf, hs⟩ := OwnC.atC h j hj
  have hl : j < l.length := by rw [h.len]; exact hj
  refine ⟨g, rfl, hb, hg, ?_, hf, fun x => by unfold OwnF; rw [List.map_set]; exact hs _⟩
  rw [hc, ← hu]
  simp [List.getD, hl]
theorem OwnF.put {k e w b g n c l} (h : OwnF k e w b (some ⟨g, 0, none⟩) n c l) (j : Nat) (hj : j < n * k) (x : Int) : OwnF k e (w.setCell ⟨g, j, none⟩ (.int .i64 x)) b (some ⟨g, 0, none⟩) n c (l.set j x) := by
  obtain ⟨_, E, _, _, _, _, h3⟩ := h.at j hj
  cases E
  exact h3 x
theorem Only.setCell {F : List Nat} {w w' : World} (h : Only F w w') (p : Addr) (u : Value) (hp : p.block ∈ F) : Only F w (w'.setCell p u) :=
  ⟨h.os, h.tape, h.output, by have := h.size; simpa [World.setCell] using this, fun k hk hne => by
    rw [Below.heap_setCell _ _ _ _ (by intro e; subst e; exact hne hp)]; exact h.block k hk hne⟩
theorem Only.alloc {F : List Nat} {w w' : World} (h : Only F w w') (o : Obj) : Only F w (w'.alloc o) :=
  h.trans (Only.of_below ((Below.refl _ _).alloc (Nat.le_refl _) _))
theorem Only.drew {F : List Nat} {w w' : World} (h : Only F w w') : Only F w w'.drew :=
  h.trans (Only.of_below ((Below.refl _ _).drew))
/-- A block that is known whole. -/
def Blk (w : World) (g : Nat) (t : TypeId) (cs : Array Value) : Prop := w.heap[g]? = some (.cells cs t (0, 0))
theorem Blk.lt {w g t cs} (h : Blk w g t cs) : g < w.heap.size := by
  rcases Nat.lt_or_ge g w.heap.size with hlt | hge
  · exact hlt
  · unfold Blk at h; rw [Array.getElem?_eq_none hge] at h; cases h
theorem Blk.cell {w g t cs} (h : Blk w g t cs) (i : Nat) : w.cell? ⟨g, i, none⟩ = cs[i]? := cell_of_row w g i cs t (0, 0) h
theorem Blk.frozen {w g t cs} (h : Blk w g t cs) (i : Nat) : w.frozen? ⟨g, i, none⟩ = false := by
  unfold Blk at h
  simp [World.frozen?, h]
theorem Blk.new (w : World) (t : TypeId) (cs : Array Value) : Blk (w.alloc (.cells cs t)) w.heap.size t cs := heap_alloc_new w _
theorem Blk.below {w w' g t cs} (h : Blk w g t cs) (hb : Below w.heap.size w w') : Blk w' g t cs := (hb.block g h.lt).trans h
theorem Blk.alloc {w g t cs} (h : Blk w g t cs) (o : Obj) : Blk (w.alloc o) g t cs := (Below.heap_alloc w o g h.lt).trans h
theorem Blk.drew {w g t cs} (h : Blk w g t cs) : Blk w.drew g t cs := h
theorem Blk.only {F : List Nat} {w w' g t cs} (h : Blk w g t cs) (ho : Only F w w') (hg : g ∉ F) : Blk w' g t cs := (ho.block g h.lt hg).trans h
theorem Blk.set_ {w g t cs} (h : Blk w g t cs) (i : Nat) (u : Value) : Blk (w.setCell ⟨g, i, none⟩ u) g t (cs.setIfInBounds i u) := by
  unfold Blk at h ⊢
  simp [World.setCell, Array.getElem?_modify, h]
theorem Blk.far {w g t cs} (h : Blk w g t cs) {p : Addr} (hp : g ≠ p.block) (u : Value) : Blk (w.setCell p u) g t cs := (Below.heap_setCell w p u g hp).trans h
end Go.Proofs.Ytmbheimjphhamaa
namespace Go.Proofs.Ytmbheimjphhamaa
open Go.RowKit
/-- The bytes (a, n, c) can be read, in a block below B. -/
def Cod (w : World) (B : Nat) (a : Option Addr) (n c : Nat) : Prop :=
  n ≤ c ∧ c ≤ maxLen ∧ ∃ g o, (0 < n → a = some ⟨g, o, none⟩ ∧ g < B) ∧ ∀ i, i < n → ∃ x : Int, 0 ≤ x ∧ x ≤ 255 ∧ w.cell? ⟨g, o + i, none⟩ = some (.int .u8 x)
theorem Cod.below {w w' : World} {B b : Nat} {a : Option Addr} {n c : Nat} (h : Cod w B a n c) (hb : Below b w w') (hB : B ≤ b) : Cod w' B a n c := by
  obtain ⟨h1, h2, g, o, h3, h5⟩ := h
  exact ⟨h1, h2, g, o, h3, fun i hi => by
    obtain ⟨x, x0, x1, hx⟩ := h5 i hi
    exact ⟨x, x0, x1, by rw [hb.cell (p := ⟨g, o + i, none⟩) (by have := (h3 (by omega)).2; show g < b; omega)]; exact hx⟩⟩
theorem Cod.more {w : World} {B B' : Nat} {a : Option Addr} {n c : Nat} (h : Cod w B a n c) (hB : B ≤ B') : Cod w B' a n c := by
  obtain ⟨h1, h2, g, o, h3, h5⟩ := h
  exact ⟨h1, h2, g, o, fun hn => ⟨(h3 hn).1, by have := (h3 hn).2; omega⟩, h5⟩
theorem Cod.nil0 (w : World) (B : Nat) : Cod w B none 0 0 := ⟨Nat.le_refl _, Nat.zero_le _, 0, 0, fun h => absurd h (by omega), fun i hi => absurd hi (by omega)⟩
theorem Cod.of_row {w : World} {x : Addr} {n c B : Nat} {zs : List Int} (hl : n ≤ c) (hm : c ≤ maxLen) (hz : zs.length = c) (hcell : ∀ i, i < zs.length → w.cell? (x.add i) = some (.int .u8 (zs.getD i 0))) (hw : ∀ y ∈ zs, (Lit.int .u8 y).wf = true) (hB : w.heap.size ≤ B) : Cod w B (some x) n c := by
  by_cases h0 : 0 < zs.length
  · obtain ⟨b, off, rfl, hc⟩ := ints_at hcell h0
    refine ⟨hl, hm, b, off, fun _ => ⟨rfl, ?_⟩, fun i hi => ?_⟩
    · have := World.block_lt_of_cell? w _ (hc 0 h0)
      exact Nat.lt_of_lt_of_le this hB
    · have hy := hw (zs.getD i 0) (by
        have hi' : i < zs.length := by omega
        simp [List.getD, hi'])
      have hy' := bounds_u8 hy
      exact ⟨zs.getD i 0, by omega, by omega, hc i (by omega)⟩
  · exact ⟨hl, hm, 0, 0, fun h => absurd h (by omega), fun i hi => absurd hi (by omega)⟩
theorem Cod.drew {w : World} {B : Nat} {a : Option Addr} {n c : Nat} (h : Cod w B a n c) : Cod w.drew B a n c := h
theorem Cod.belowAll {w w' : World} {a : Option Addr} {n c : Nat} (h : Cod w w.heap.size a n c) (hb : Below w.heap.size w w') : Cod w' w'.heap.size a n c := (h.below hb (Nat.le_refl _)).more hb.size
/-- The cursor in block g has read k bytes. -/
def Cur (w : World) (g : Nat) (k : Nat) : Prop :=
  ∃ (a : Option Addr) (n c : Nat) (s : Int), Blk w g 55 #[.slice a n c, .int .i64 k, .int .u64 s] ∧ (0 ≤ s ∧ s ≤ 18446744073709551615) ∧ Cod w g a n c
theorem Cur.lt {w g k} (h : Cur w g k) : g < w.heap.size := by obtain ⟨_, _, _, _, h, _⟩ := h; exact h.lt
theorem Cur.below {w w' : World} {g k : Nat} (h : Cur w g k) (hb : Below w.heap.size w w') : Cur w' g k := by
  have hl := h.lt
  obtain ⟨a, n, c, s, h1, h2, h3⟩ := h
  exact ⟨a, n, c, s, h1.below hb, h2, h3.below hb (by omega)⟩
theorem Cur.alloc {w : World} {g k : Nat} (h : Cur w g k) (o : Obj) : Cur (w.alloc o) g k := h.below ((Below.refl _ _).alloc (Nat.le_refl _) _)
theorem Cur.only {X : List Nat} {w w' : World} {g k : Nat} (h : Cur w g k) (ho : Only X w w') (hX : ∀ q ∈ X, g < q) : Cur w' g k := by
  have hl := h.lt
  obtain ⟨a, n, c, s, h1, h2, h3⟩ := h
  exact ⟨a, n, c, s, h1.only ho (fun hm => by have := hX _ hm; omega), h2, h3.below (ho.below (B := g) (by omega) (fun q hq => by have := hX q hq; omega)) (Nat.le_refl _)⟩
theorem Cur.of_new {w : World} {a : Option Addr} {n c : Nat} (h : Cod w w.heap.size a n c) : Cur (w.alloc (.cells #[.slice a n c, .int .i64 0, .int .u64 0] 55)) w.heap.size 0 :=
  ⟨a, n, c, 0, Blk.new w _ _, by omega, h.below (b := w.heap.size) ((Below.refl _ _).alloc (Nat.le_refl _) _) (Nat.le_refl _)⟩
/-- What the cursor's writes leave. -/
theorem Only.below1 {g : Nat} {w w' : World} (h : Only [g] w w') {B : Nat} (hg : B ≤ g) (hB : B ≤ w.heap.size) : Below B w w' := h.below hB (fun k hk => by simp at hk; omega)
theorem Ints.onlyC {X : List Nat} {w w' : World} {a : Option Addr} {n c : Nat} {l : List Int} (h : Ints w a n c l) (ho : Only X w w') (hd : ∀ x, 0 < n → a = some x → x.block ∉ X) : Ints w' a n c l := by
  obtain ⟨h1, h2, h3, h4, g, o, h5, h6⟩ := h
  refine ⟨h1, h2, h3, h4, g, o, h5, fun i hi => ?_⟩
  have hc := h6 i hi
  have hlt := World.block_lt_of_cell? w _ hc
  have hb := ho.block g hlt (hd ⟨g, o, none⟩ (by omega) (h5 (by omega)))
  rw [World.cell?_of_block (w := w) (w' := w') (a := ⟨g, o + i, none⟩) hb]
  exact hc
theorem maskB (a : Nat) (ha : a < 18446744073709551616) : bits BinOp.and IntKind.u64 (a : Int) 255 = ((a % 256 : Nat) : Int) := by
  have h := u64_and_nat a 255 ha (by omega)
  have e : a &&& 255 = a % 256 := Nat.and_two_pow_sub_one_eq_mod a 8
  rw [e] at h
  exact h
theorem maskR (a : Int) (h0 : 0 ≤ a) (h1 : a ≤ 18446744073709551615) : ∃ x : Int, bits BinOp.and IntKind.u64 a 255 = x ∧ 0 ≤ x ∧ x ≤ 255 := by
  obtain ⟨n, rfl⟩ := Int.eq_ofNat_of_zero_le h0
  exact ⟨_, maskB n (by omega), by omega, by omega⟩
theorem Cur.drewN {w : World} {g k : Nat} (h : Cur w g k) (m : Nat) : Cur (w.drewN m) g k := h
theorem Cur.drew {w : World} {g k : Nat} (h : Cur w g k) : Cur w.drew g k := h
theorem Only.drewN {F : List Nat} {w w' : World} (h : Only F w w') (m : Nat) : Only F w (w'.drewN m) := h.trans (Only.of_below (below_of_drewN m))
theorem maskW (a : Int) (h0 : 0 ≤ a) (h1 : a ≤ 18446744073709551615) : 0 ≤ wrap64 (bits BinOp.and IntKind.u64 (a / 1099511627776) 255) ∧ wrap64 (bits BinOp.and IntKind.u64 (a / 1099511627776) 255) ≤ 255 := by
  obtain ⟨x, hx, x0, x1⟩ := maskR (a / 1099511627776) (by omega) (by omega)
  rw [hx]
  unfold wrap64
  omega
def NextP (w : World) (g k : Nat) (e : Ending) (w' : World) : Prop := ∃ x : Int, e = .returned (.int .i64 x) ∧ 0 ≤ x ∧ x ≤ 255 ∧ Cur w' g (k + 1) ∧ Only [g] w w'
set_option maxHeartbeats 4000000 in
set_option maxRecDepth 100000 in
theorem next_any (g k : Nat) (w : World) (h : Cur w g k) (hk : k ≤ 1000000000000000) :
    Calls Try.prog 77 #[.pointer (some ⟨g, 0, none⟩)] w (NextP w g k) := by
  obtain ⟨a, n, c, s, B, ⟨s0, s1⟩, hC⟩ := h
  have hC' := hC
  obtain ⟨c1, c2, cg, co, c3, c5⟩ := hC'
  have hcc : (n : Int) ≤ 9223372036854775807 := by unfold maxLen at c2; omega
  have e0 : w.cell? ⟨g, 0, none⟩ = some (.slice a n c) := B.cell 0
  have e1 : w.cell? ⟨g, 1, none⟩ = some (.int .i64 k) := B.cell 1
  have e2 : w.cell? ⟨g, 2, none⟩ = some (.int .u64 s) := B.cell 2
  have f1 : w.frozen? ⟨g, 1, none⟩ = false := B.frozen 1
  have f2 : w.frozen? ⟨g, 2, none⟩ = false := B.frozen 2
  have HB := Lib.hid B
  have HC := Lib.hid hC
  clear B hC
  have fin : ∀ (W : World) (x : Int), 0 ≤ x → x ≤ 18446744073709551615 → Only [] w W → Only [g] w ((W.setCell ⟨g, 1, none⟩ (.int .i64 ((k : Int) + 1))).setCell ⟨g, 2, none⟩ (.int .u64 x)) ∧ Cur ((W.setCell ⟨g, 1, none⟩ (.int .i64 ((k : Int) + 1))).setCell ⟨g, 2, none⟩ (.int .u64 x)) g (k + 1) := fun W x x0 x1 hW => by
    have hO : Only [g] w ((W.setCell ⟨g, 1, none⟩ (.int .i64 ((k : Int) + 1))).setCell ⟨g, 2, none⟩ (.int .u64 x)) := ((hW.more (fun _ h => by cases h)).setCell _ _ (by simp)).setCell _ _ (by simp)
    have hBW := HB.out.only hW (by simp)
    have h2 := (hBW.set_ 1 (.int .i64 ((k : Int) + 1))).set_ 2 (.int .u64 x)
    exact ⟨hO, a, n, c, x, by simpa using h2, ⟨x0, x1⟩, HC.out.below (hO.below1 (Nat.le_refl _) (Nat.le_of_lt HB.out.lt)) (Nat.le_refl _)⟩
  have FIN := Lib.hid fin
  clear fin
  have m0 : ∀ x : Int, 0 ≤ IntKind.u64.wrap x ∧ IntKind.u64.wrap x ≤ 18446744073709551615 := fun x => by rw [IntKind.wrap_u64]; omega
  have M0 := Lib.hid m0
  clear m0
  by_cases hlt : k < n
  · obtain ⟨x, x0, x1, cx⟩ := c5 k hlt
    obtain ⟨rfl, _⟩ := c3 (by omega)
    have hlt' : (k : Int) < (n : Int) := by omega
    have hle' : (k : Int) + 1 ≤ (n : Int) := by omega
    have hk0 : (0 : Int) ≤ (k : Int) := by omega
    clear c3 c5
    go_enter Try.func77, Try.ntmps77
    go_wp2
    go_quiet (fail)
    go_wp2
    go_quiet (fail)
    go_wp2
    go_quiet (fail)
    go_wp2
    go_ret
    obtain ⟨r1, r2⟩ := FIN.out (w.drewN _) _ (M0.out _).1 (M0.out _).2 (Only.of_below (below_of_drewN _))
    exact ⟨x, rfl, x0, x1, r2.drewN _, r1.drewN _⟩
  · clear c3 c5
    have hlt' : ¬ (k : Int) < (n : Int) := by omega
    have hd : decide ((k : Int) < (n : Int)) = false := by simp; omega
    go_enter Try.func77, Try.ntmps77
    go_wp2
    go_quiet (fail)
    go_wp2
    go_quiet (fail)
    go_wp2
    go_ret
    obtain ⟨r1, r2⟩ := FIN.out (w.drewN _) _ (M0.out _).1 (M0.out _).2 (Only.of_below (below_of_drewN _))
    exact ⟨_, rfl, (maskW _ (M0.out _).1 (M0.out _).2).1, (maskW _ (M0.out _).1 (M0.out _).2).2, r2.drewN _, r1.drewN _⟩
theorem emod_le' (x n : Int) (hx : 0 ≤ x) (hn : 0 < n) : x % n ≤ x := by
  have h1 := Int.emod_def x n
  have h2 : 0 ≤ n * (x / n) := Int.mul_nonneg (by omega) (Int.ediv_nonneg hx (by omega))
  omega
def PickP (w : World) (g k : Nat) (n : Int) (e : Ending) (w' : World) : Prop := ∃ (x : Int) (k' : Nat), e = .returned (.int .i64 x) ∧ 0 ≤ x ∧ (x = 0 ∨ x < n) ∧ x ≤ 65535 ∧ k' ≤ k + 2 ∧ Cur w' g k' ∧ Only [g] w w'
set_option maxHeartbeats 4000000 in
theorem pick_any (g k : Nat) (n : Int) (w : World) (h : Cur w g k) (hk : k ≤ 900000000000000) :
    Calls Try.prog 47 #[.pointer (some ⟨g, 0, none⟩), .int .i64 n] w (PickP w g k n) := by
  by_cases h1 : n ≤ 1
  · go_enter Try.func47, Try.ntmps47
    go_wp2
    go_ret
    exact ⟨0, k, rfl, Int.le_refl _, Or.inl rfl, by omega, by omega, h, Only.refl _ _⟩
  · have hrem : ∀ x : Int, 0 ≤ x → x.tmod n = x % n := fun x hx => Int.tmod_eq_emod_of_nonneg hx
    have hmr : ∀ x : Int, 0 ≤ x % n ∧ x % n < n := fun x => ⟨Int.emod_nonneg _ (by omega), Int.emod_lt_of_pos _ (by omega)⟩
    have hmx : ∀ x : Int, 0 ≤ x → x % n ≤ x := fun x hx => emod_le' x n hx (by omega)
    have HM := Lib.hid hmr
    have HX := Lib.hid hmx
    have HT := Lib.hid hrem
    clear hrem hmr hmx
    by_cases h2 : n > 200
    · go_enter Try.func47, Try.ntmps47
      go_wp2_with fail
      refine (next_any g k _ h (by omega)).mono ?_; rintro e w1 ⟨x, rfl, x0, x1, c1, o1⟩
      go_wp2_with fail
      refine (next_any g (k + 1) _ c1 (by omega)).mono ?_; rintro e w2 ⟨y, rfl, y0, y1, c2, o2⟩
      have t0 : 0 ≤ x * 256 + y := by omega
      have t1 := HT.out _ t0
      have hn0 : n ≠ 0 := by omega
      go_wp2
      go_ret
      have := HX.out _ t0
      exact ⟨_, k + 1 + 1, rfl, (HM.out _).1, Or.inr (HM.out _).2, by omega, by omega, c2, o1.trans o2⟩
    · go_enter Try.func47, Try.ntmps47
      go_wp2_with fail
      refine (next_any g k _ h (by omega)).mono ?_; rintro e w1 ⟨x, rfl, x0, x1, c1, o1⟩
      have t1 := HT.out _ x0
      go_wp2
      go_ret
      have := HX.out _ x0
      exact ⟨_, k + 1, rfl, (HM.out _).1, Or.inr (HM.out _).2, by omega, by omega, c1, o1⟩
def AmongP (w : World) (g k : Nat) (l : List Int) (e : Ending) (w' : World) : Prop := ∃ (x : Int) (k' : Nat), e = .returned (.int .i64 x) ∧ x ∈ l ∧ k' ≤ k + 2 ∧ Cur w' g k' ∧ Only [g] w w'
set_option maxHeartbeats 4000000 in
theorem among_any (g k : Nat) (a : Option Addr) (n c : Nat) (l : List Int) (w : World) (h : Cur w g k) (hk : k ≤ 900000000000000) (hl : Ints w a n c l) (hn : 0 < n) (hd : ∀ x, 0 < n → a = some x → x.block ∉ [g]) :
    Calls Try.prog 66 #[.pointer (some ⟨g, 0, none⟩), .slice a n c] w (AmongP w g k l) := by
  have hle := hl.le
  have HL := Lib.hid hl.len
  go_enter Try.func66, Try.ntmps66
  go_wp2_with fail
  refine (pick_any g k n _ h hk).mono ?_; rintro e w1 ⟨x, k', rfl, x0, x1, _, k1, c1, o1⟩
  obtain ⟨i, rfl⟩ : ∃ i : Nat, x = i := ⟨x.toNat, by omega⟩
  have hi : i < n := by omega
  have hi' : (i : Int) < (n : Int) := by omega
  have HM := Lib.hid (getD_mem l i (by rw [← HL.out]; exact hi))
  obtain ⟨q, o, rfl, e1⟩ := (hl.onlyC o1 hd).at i hi
  clear x1
  go_wp2
  go_ret
  exact ⟨_, k', rfl, HM.out, k1, c1, o1⟩
end Go.Proofs.Ytmbheimjphhamaa
namespace Go.Proofs.Ytmbheimjphhamaa
open Go.RowKit
/-- A row made behind w stays where the cursor writes. -/
theorem Own.cur {w1 w2 : World} {g b : Nat} {a : Option Addr} {n c : Nat} {l : List Int} (h : Own w1 b a n c l) (ho : Only [g] w1 w2) (hb : g < b) : Own w2 b a n c l :=
  h.only ho (fun q hq hq' => by have := (h.feet q hq).1; simp at hq'; omega)
theorem lit_ne {w : World} {g k : Nat} (h : Cur w g k) (n : Nat) : ∀ x : Addr, 0 < n → some (⟨w.heap.size, 0, none⟩ : Addr) = some x → x.block ∉ [g] := fun x _ hx => by
  have := h.lt
  cases hx
  simp
  omega
def NumP (lo hi : Int) (d : Nat) (w : World) (g k : Nat) (e : Ending) (w' : World) : Prop := ∃ (x : Int) (k' : Nat), e = .returned (.int .i64 x) ∧ lo ≤ x ∧ x ≤ hi ∧ k' ≤ k + d ∧ Cur w' g k' ∧ Only [g] w w'
theorem among_r (g k : Nat) (L : List Int) (lo hi : Int) (w : World) (h : Cur w g k) (hk : k ≤ 900000000000000) (hn : 0 < L.length) (hm : L.length ≤ 1000) (hr : ∀ y ∈ L, lo ≤ y ∧ y ≤ hi) :
    Calls Try.prog 66 #[.pointer (some ⟨g, 0, none⟩), .slice (some ⟨w.heap.size, 0, none⟩) L.length L.length] (w.alloc (.cells (L.map (Value.int .i64)).toArray 3)) (NumP lo hi 2 w g k) :=
  (among_any g k _ L.length L.length L _ (h.alloc _) hk (Ints.lit w L 3 (by unfold maxLen; omega)) hn (lit_ne h _)).mono fun _ _ ⟨x, k', he, hx, hk, hc, ho⟩ =>
    ⟨x, k', he, (hr x hx).1, (hr x hx).2, hk, hc, ((Only.refl _ _).alloc _).trans ho⟩
end Go.Proofs.Ytmbheimjphhamaa
namespace Go.Proofs.Ytmbheimjphhamaa
open Go.RowKit
def Num1 (w : World) (e : Ending) (w' : World) : Prop := ∃ x : Int, e = .returned (.int .i64 x) ∧ Below w.heap.size w w'
def Num2 (w : World) (e : Ending) (w' : World) : Prop := ∃ x y : Int, e = .returned (.tuple #[.int .i64 x, .int .i64 y]) ∧ Below w.heap.size w w'
def Num3 (w : World) (e : Ending) (w' : World) : Prop := ∃ x y z : Int, e = .returned (.tuple #[.int .i64 x, .int .i64 y, .int .i64 z]) ∧ Below w.heap.size w w'
end Go.Proofs.Ytmbheimjphhamaa
namespace Go.Proofs.Ytmbheimjphhamaa
open Go.RowKit
def SizP (w : World) (g k : Nat) (e : Ending) (w' : World) : Prop := ∃ (x y : Int) (k' : Nat), e = .returned (.tuple #[.int .i64 x, .int .i64 y]) ∧ (0 ≤ x ∧ x ≤ 9) ∧ (0 ≤ y ∧ y ≤ 5) ∧ k' ≤ k + 8 ∧ Cur w' g k' ∧ Only [g] w w'
set_option maxHeartbeats 4000000 in
theorem sizes_any (g k : Nat) (w : World) (h : Cur w g k) (hk : k ≤ 800000000000000) :
    Calls Try.prog 33 #[.pointer (some ⟨g, 0, none⟩)] w (SizP w g k) := by
  go_enter Try.func33, Try.ntmps33
  go_wp2_with fail
  refine (among_r g _ [0, 9] 0 9 _ h (by omega) (by decide) (by decide) (by decide)).mono ?_
  rintro e w1' ⟨z, k_w1', rfl, z0, z1, q_w1', C_w1', o_w1'⟩
  have V_w1' := (Only.refl [g] w).trans o_w1'
  have S_w1' := o_w1'.size
  clear o_w1' 
  go_wp2_with fail
  refine (among_r g _ [1, 2, 3, 4, 5, 6, 8, z] 0 9 _ C_w1' (by omega) (by simp) (by simp) (by simp; omega)).mono ?_
  rintro e w2' ⟨x, k_w2', rfl, x0, x1, q_w2', C_w2', o_w2'⟩
  have V_w2' := V_w1'.trans o_w2'
  have S_w2' := o_w2'.size
  clear o_w2' V_w1'
  go_wp2_with fail
  refine (among_r g _ [0, 5, 4] 0 5 _ C_w2' (by omega) (by decide) (by decide) (by decide)).mono ?_
  rintro e w3' ⟨u, k_w3', rfl, u0, u1, q_w3', C_w3', o_w3'⟩
  have V_w3' := V_w2'.trans o_w3'
  have S_w3' := o_w3'.size
  clear o_w3' V_w2'
  go_wp2_with fail
  refine (among_r g _ [1, 2, 2, 3, 4, u] 0 5 _ C_w3' (by omega) (by simp) (by simp) (by simp; omega)).mono ?_
  rintro e w4' ⟨y, k_w4', rfl, y0, y1, q_w4', C_w4', o_w4'⟩
  have V_w4' := V_w3'.trans o_w4'
  have S_w4' := o_w4'.size
  clear o_w4' V_w3'
  go_wp2
  go_ret2
  exact ⟨_, _, _, rfl, ⟨x0, x1⟩, ⟨y0, y1⟩, by omega, C_w4', V_w4'⟩
set_option maxHeartbeats 4000000 in
theorem DrawScanReadCircuit_any (a : Option Addr) (n c : Nat) (w : World) (h : Cod w w.heap.size a n c) :
    Calls Try.prog 5 #[.slice a n c] w (Num2 w) := by
  go_enter Try.func5, Try.ntmps5
  go_wp2_with fail
  have C_w1' : Cur (w.alloc (.cells #[.slice a n c, .int .i64 0, .int .u64 0] 55)) w.heap.size 0 := Cur.of_new h
  have V_w1' : Below w.heap.size w (w.alloc (.cells #[.slice a n c, .int .i64 0, .int .u64 0] 55)) := (Below.refl _ _).alloc (Nat.le_refl _) _
  have S_w1' : w.heap.size < (w.alloc (.cells #[.slice a n c, .int .i64 0, .int .u64 0] 55)).heap.size := by simp
  generalize (w.alloc (.cells #[.slice a n c, .int .i64 0, .int .u64 0] 55)) = w1' at *
  refine (sizes_any w.heap.size _ _ C_w1' (by omega)).mono ?_
  rintro e w2' ⟨x, y, k_w2', rfl, xr, yr, q_w2', C_w2', o_w2'⟩
  have V_w2' := V_w1'.trans (o_w2'.below1 (Nat.le_refl _) V_w1'.size)
  have S_w2' := o_w2'.size
  clear o_w2' V_w1'
  go_wp2
  go_ret2
  exact ⟨_, _, rfl, V_w2'⟩
set_option maxHeartbeats 4000000 in
theorem DrawIndexWidth_any (a : Option Addr) (n c : Nat) (w : World) (h : Cod w w.heap.size a n c) :
    Calls Try.prog 17 #[.slice a n c] w (Num1 w) := by
  go_enter Try.func17, Try.ntmps17
  go_wp2_with fail
  have C_w1' : Cur (w.alloc (.cells #[.slice a n c, .int .i64 0, .int .u64 0] 55)) w.heap.size 0 := Cur.of_new h
  have V_w1' : Below w.heap.size w (w.alloc (.cells #[.slice a n c, .int .i64 0, .int .u64 0] 55)) := (Below.refl _ _).alloc (Nat.le_refl _) _
  have S_w1' : w.heap.size < (w.alloc (.cells #[.slice a n c, .int .i64 0, .int .u64 0] 55)).heap.size := by simp
  generalize (w.alloc (.cells #[.slice a n c, .int .i64 0, .int .u64 0] 55)) = w1' at *
  refine (sizes_any w.heap.size _ _ C_w1' (by omega)).mono ?_
  rintro e w2' ⟨x, y, k_w2', rfl, xr, yr, q_w2', C_w2', o_w2'⟩
  have V_w2' := V_w1'.trans (o_w2'.below1 (Nat.le_refl _) V_w1'.size)
  have S_w2' := o_w2'.size
  clear o_w2' V_w1'
  go_wp2
  go_ret
  exact ⟨_, rfl, V_w2'⟩
set_option maxHeartbeats 4000000 in
theorem DrawAndsOfMemory_any (a : Option Addr) (n c : Nat) (w : World) (h : Cod w w.heap.size a n c) :
    Calls Try.prog 14 #[.slice a n c] w (Num3 w) := by
  go_enter Try.func14, Try.ntmps14
  go_wp2_with fail
  have C_w1' : Cur (w.alloc (.cells #[.slice a n c, .int .i64 0, .int .u64 0] 55)) w.heap.size 0 := Cur.of_new h
  have V_w1' : Below w.heap.size w (w.alloc (.cells #[.slice a n c, .int .i64 0, .int .u64 0] 55)) := (Below.refl _ _).alloc (Nat.le_refl _) _
  have S_w1' : w.heap.size < (w.alloc (.cells #[.slice a n c, .int .i64 0, .int .u64 0] 55)).heap.size := by simp
  generalize (w.alloc (.cells #[.slice a n c, .int .i64 0, .int .u64 0] 55)) = w1' at *
  refine (sizes_any w.heap.size _ _ C_w1' (by omega)).mono ?_
  rintro e w2' ⟨x, y, k_w2', rfl, xr, yr, q_w2', C_w2', o_w2'⟩
  have V_w2' := V_w1'.trans (o_w2'.below1 (Nat.le_refl _) V_w1'.size)
  have S_w2' := o_w2'.size
  clear o_w2' V_w1'
  go_wp2_with fail
  refine (pick_any w.heap.size _ 5 _ C_w2' (by omega)).mono ?_
  rintro e w3' ⟨s, k_w3', rfl, s0, s1, s2, q_w3', C_w3', o_w3'⟩
  have V_w3' := V_w2'.trans (o_w3'.below1 (Nat.le_refl _) V_w2'.size)
  have S_w3' := o_w3'.size
  clear o_w3' V_w2'
  go_wp2_with fail
  refine (pick_any w.heap.size _ 16 _ C_w3' (by omega)).mono ?_
  rintro e w4' ⟨t, k_w4', rfl, t0, t1, t2, q_w4', C_w4', o_w4'⟩
  have V_w4' := V_w3'.trans (o_w4'.below1 (Nat.le_refl _) V_w3'.size)
  have S_w4' := o_w4'.size
  clear o_w4' V_w3'
  clear s1 t1
  go_wp2
  go_ret3
  exact ⟨_, _, _, rfl, V_w4'⟩
end Go.Proofs.Ytmbheimjphhamaa
namespace Go.Proofs.Ytmbheimjphhamaa
open Go.RowKit
theorem areAll_1_enters (args : Array Value) (W : World) : (callFunc 106 args).run Try.prog W = .ok (.enter 106 args) W :=
  enters Try.func106 (by kernel_rfl) (by kernel_rfl) args W
end Go.Proofs.Ytmbheimjphhamaa
namespace Go.Proofs.Ytmbheimjphhamaa
open Go.RowKit
set_option maxHeartbeats 1000000 in
theorem IndexFunc_b (a : Option Addr) (n c : Nat) (l : List Int) (f : Nat) (cap : Array Value) (q : Int → Bool) (w : World) (h : Ints w a n c l)
    (hf : ∀ args W, (callFunc f args).run Try.prog W = .ok (.enter f args) W)
    (hq : ∀ W x, Below w.heap.size w W → x ∈ l → Calls Try.prog f (#[.int .i64 x] ++ cap) W fun e w' => e = .returned (.bool (q x)) ∧ Below W.heap.size W w') :
    Calls Try.prog 116 #[.slice a n c, .func (.func f) #[] cap] w fun e w' => ∃ i : Int, e = .returned (.int .i64 i) ∧ Hid (decide (0 ≤ i) = l.any q) ∧ Below w.heap.size w w' := by
  have hn := h.le
  have HQ := Lib.hid hq
  clear hq
  go_enter Try.func116, Try.ntmps116
  go_wp2
  go_loopw [8] (fun v wr => ∃ k : Nat, k ≤ n ∧ v = .int .i64 k ∧ (∀ i, i < k → q (l.getD i 0) = false) ∧ Below w.heap.size w wr) (fun v _ => n - (intOf v).toNat)
  case atStart => exact ⟨0, Nat.zero_le _, rfl, fun i hi => absurd hi (by omega), Below.refl _ _⟩
  case round =>
    obtain ⟨k, hk, rfl, hj, hbel⟩ := hrel
    have HJ := Lib.hid hj
    clear hj
    by_cases hlt : k < n
    · obtain ⟨g, o, rfl, hcell⟩ := (h.below hbel).at k hlt
      have HC := Lib.hid (HQ.out wr (l.getD k 0) hbel (getD_mem l k (by rw [← h.len]; exact hlt)))
      cases hb : q (l.getD k 0)
      · rw [hb] at HC
        have HB := Lib.hid hb
        clear hb
        go_wp2_with (refine HC.out.mono ?_; rintro e w' ⟨rfl, u⟩)
        have hbel' := hbel.trans (‹Below wr.heap.size wr _›.mono hbel.size)
        go_roundw
        case rel => exact ⟨k + 1, by omega, by go_num, fun i hi => by
          by_cases e : i = k
          · subst e; exact HB.out
          · exact HJ.out i (by omega), hbel'⟩
        case measure => simp [intOf]; omega
      · rw [hb] at HC
        have HB := Lib.hid (any_hit l q k (by rw [← h.len]; exact hlt) hb)
        clear hb
        go_wp2_with (refine HC.out.mono ?_; rintro e w' ⟨rfl, u⟩)
        have hbel' := hbel.trans (‹Below wr.heap.size wr _›.mono hbel.size)
        go_ret
        exact ⟨k, rfl, by unfold Hid; rw [HB.out]; simp, hbel'⟩
    · have HB := Lib.hid (any_miss l q (fun i hi => HJ.out i (by have := h.len; omega)))
      go_wp2
      go_ret
      exact ⟨-1, rfl, by unfold Hid; rw [HB.out]; decide, hbel⟩
set_option maxHeartbeats 1000000 in
theorem ContainsFunc_b (a : Option Addr) (n c : Nat) (l : List Int) (f : Nat) (cap : Array Value) (q : Int → Bool) (w : World) (h : Ints w a n c l)
    (hf : ∀ args W, (callFunc f args).run Try.prog W = .ok (.enter f args) W)
    (hq : ∀ W x, Below w.heap.size w W → x ∈ l → Calls Try.prog f (#[.int .i64 x] ++ cap) W fun e w' => e = .returned (.bool (q x)) ∧ Below W.heap.size W w') :
    Calls Try.prog 105 #[.slice a n c, .func (.func f) #[] cap] w fun e w' => e = .returned (.bool (l.any q)) ∧ Below w.heap.size w w' := by
  have HQ := Lib.hid hq
  have HF := Lib.hid hf
  clear hq hf
  go_enter Try.func105, Try.ntmps105
  go_wp2_with fail
  refine (IndexFunc_b _ _ _ l _ _ q _ h HF.out HQ.out).mono ?_; rintro e w' ⟨i, rfl, hi, u⟩
  go_wp2
  go_ret
  exact ⟨ret_bool hi.out, u⟩
set_option maxHeartbeats 1000000 in
theorem areAll_1_b (x : Int) (p : Addr) (f : Nat) (cap : Array Value) (b : Bool) (w : World) (hp : w.cell? p = some (.func (.func f) #[] cap))
    (hf : ∀ args W, (callFunc f args).run Try.prog W = .ok (.enter f args) W)
    (hq : Calls Try.prog f (#[.int .i64 x] ++ cap) w fun e w' => e = .returned (.bool b) ∧ Below w.heap.size w w') :
    Calls Try.prog 106 #[.int .i64 x, .pointer (some p)] w fun e w' => e = .returned (.bool (!b)) ∧ Below w.heap.size w w' := by
  have HQ := Lib.hid hq
  clear hq
  go_enter Try.func106, Try.ntmps106
  go_wp2_with (refine HQ.out.mono ?_; rintro e w' ⟨rfl, u⟩)
  go_ret
  have u1 := ‹Below w.heap.size w _›
  exact ⟨rfl, u1⟩
set_option maxHeartbeats 1000000 in
theorem areAll_b (a : Option Addr) (n c : Nat) (l : List Int) (f : Nat) (cap : Array Value) (q : Int → Bool) (w : World) (h : Ints w a n c l)
    (hf : ∀ args W, (callFunc f args).run Try.prog W = .ok (.enter f args) W)
    (hq : ∀ W x, Below w.heap.size w W → x ∈ l → Calls Try.prog f (#[.int .i64 x] ++ cap) W fun e w' => e = .returned (.bool (q x)) ∧ Below W.heap.size W w') :
    Calls Try.prog 81 #[.slice a n c, .func (.func f) #[] cap] w fun e w' => e = .returned (.bool (l.all q)) ∧ Below w.heap.size w w' := by
  have hall : (!l.any fun x => !q x) = l.all q := by rw [List.all_eq_not_any_not]
  have HALL := Lib.hid hall
  clear hall
  have hbel : Below w.heap.size w (w.alloc (.cells #[.func (.func f) #[] cap] 76)) := (Below.refl _ _).alloc (Nat.le_refl _) _
  have hc : (w.alloc (.cells #[.func (.func f) #[] cap] 76)).cell? ⟨w.heap.size, 0, none⟩ = some (.func (.func f) #[] cap) := cell_new _ _ _
  have hcf := ContainsFunc_b a n c l 106 #[.pointer (some ⟨w.heap.size, 0, none⟩)] (fun x => !q x) (w.alloc (.cells #[.func (.func f) #[] cap] 76)) (h.alloc _) areAll_1_enters
    (fun W x hb hx => areAll_1_b x _ f cap (q x) W (by rw [hb.cell (by simp)]; exact hc) hf (hq _ x (hbel.trans (hb.mono (by simp))) hx))
  have HCF := Lib.hid hcf
  clear hcf hq hf
  go_enter Try.func81, Try.ntmps81
  go_wp2_with (go_at_call 105; refine HCF.out.mono ?_; rintro e w' ⟨rfl, u⟩)
  go_ret
  have u1 := ‹Below (World.alloc _ _).heap.size _ _›
  exact ⟨ret_bool HALL.out, hbel.trans (u1.mono (by simp))⟩
end Go.Proofs.Ytmbheimjphhamaa
