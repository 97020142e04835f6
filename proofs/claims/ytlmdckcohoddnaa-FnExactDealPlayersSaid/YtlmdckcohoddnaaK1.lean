/- Lemmas and walks that the claim's proof rests on, part 1. -/
import Derived.Test.YtlmdckcohoddnaaRows
import Derived.WalkKit
import Derived.WalkSpells
import Derived.WalkLawsBesides
import Derived.Handy
import Derived.Lib.Hide
import Derived.Deep.QuietTactic
import Derived.BigQuiet
import Derived.Deep.RegionWith
import Derived.StillTailTactics
import Derived.Deep.RegionHeld3
import Derived.OpenShut
import Derived.ArgAppend
import Derived.Deep.RegionHeld
namespace Go.Proofs.Ytlmdckcohoddnaa
open Go.RowKit
theorem ret_int {k : IntKind} {a b : Int} (h : a = b) : Ending.returned (.int k a) = .returned (.int k b) := by rw [h]
theorem ret_bool {a b : Bool} (h : a = b) : Ending.returned (.bool a) = .returned (.bool b) := by rw [h]
theorem v_int {k : IntKind} {a b : Int} (h : a = b) : Value.int k a = .int k b := by rw [h]
theorem ret_slice {a : Option Addr} {n m c : Nat} (h : n = m) : Ending.returned (.slice a n c) = .returned (.slice a m c) := by rw [h]
end Go.Proofs.Ytlmdckcohoddnaa
namespace Go.Proofs.Ytlmdckcohoddnaa
open Go.RowKit
theorem mod_core (p n : Int) (h1 : 1 ≤ p) : (n.tmod p + p) % p = n % p := by
  have a1 := Int.emod_nonneg n (by omega : p ≠ 0)
  have a2 := Int.emod_lt_of_pos n (by omega : 0 < p)
  rw [Int.tmod_eq_emod (a := n)]
  split
  · simp
  · rw [show n % p - (p.natAbs : Int) + p = n % p from by omega, Int.emod_emod]
/-- A number in a range. -/
def inB (n lo hi : Int) : Bool := decide (lo ≤ n ∧ n ≤ hi)
theorem inB_true {n lo hi : Int} (h : inB n lo hi = true) : lo ≤ n ∧ n ≤ hi := of_decide_eq_true h
set_option maxHeartbeats 400000 in
theorem within_any (n lo hi : Int) (w : World) :
    Calls Try.prog 35 #[.int .i64 n, .int .i64 lo, .int .i64 hi] w fun e w' => e = .returned (.bool (inB n lo hi)) ∧ w = w' := by
  by_cases h1 : lo ≤ n
  · have b1 : decide (lo ≤ n) = true := decide_eq_true h1
    go_enter Try.func35, Try.ntmps35
    go_wp2
    go_ret
    exact ⟨ret_bool (by unfold inB; simp [h1]), rfl⟩
  · have b1 : decide (lo ≤ n) = false := decide_eq_false h1
    go_enter Try.func35, Try.ntmps35
    go_wp2
    go_ret
    exact ⟨ret_bool (decide_eq_false (by omega)).symm, rfl⟩
set_option maxHeartbeats 400000 in
theorem l1In_any (n lo hi : Int) (w : World) :
    Calls Try.prog 27 #[.int .i64 n, .int .i64 lo, .int .i64 hi] w fun e w' => e = .returned (.bool (inB n lo hi)) ∧ w = w' := by
  by_cases h1 : lo ≤ n
  · have b1 : decide (lo ≤ n) = true := decide_eq_true h1
    go_enter Try.func27, Try.ntmps27
    go_wp2
    go_ret
    exact ⟨ret_bool (by unfold inB; simp [h1]), rfl⟩
  · have b1 : decide (lo ≤ n) = false := decide_eq_false h1
    go_enter Try.func27, Try.ntmps27
    go_wp2
    go_ret
    exact ⟨ret_bool (decide_eq_false (by omega)).symm, rfl⟩
set_option maxHeartbeats 400000 in
theorem mod_same (p n : Int) (w : World) (h1 : 1 ≤ p) (h2 : p ≤ 1000000000) :
    Calls Try.prog 17 #[.int .i64 p, .int .i64 n] w fun e w' => e = .returned (.int .i64 (n % p)) ∧ w' = w := by
  have b1 := Int.tmod_lt_of_pos n (by omega : 0 < p)
  have b2 := Int.lt_tmod_of_pos n (by omega : 0 < p)
  have E2 := Lib.hid (mod_core p n h1)
  go_enter Try.func17, Try.ntmps17
  go_wp2
  go_ret
  exact ⟨ret_int (by exact E2.out), rfl⟩
/-- A prime up to 251. -/
def isPr (p : Int) : Bool := decide (2 ≤ p ∧ p ≤ 251 ∧ ∀ d : Nat, d < 16 → 2 ≤ d → (d : Int) * d ≤ p → p % d ≠ 0)
theorem isPr_range {p : Int} (h : isPr p = true) : 2 ≤ p ∧ p ≤ 251 := by
  unfold isPr at h; simp only [decide_eq_true_eq] at h; exact ⟨h.1, h.2.1⟩
theorem isPr_no {p : Int} (h : ¬ (2 ≤ p ∧ p ≤ 251)) : isPr p = false := by
  unfold isPr; simp only [decide_eq_false_iff_not]; exact fun k => h ⟨k.1, k.2.1⟩
theorem isPr_hit {p : Int} (d : Nat) (h1 : d < 16) (h2 : 2 ≤ d) (h3 : (d : Int) * d ≤ p) (h4 : p % d = 0) : isPr p = false := by
  unfold isPr; simp only [decide_eq_false_iff_not]; exact fun k => k.2.2 d h1 h2 h3 h4
theorem isPr_yes {p : Int} (h1 : 2 ≤ p) (h2 : p ≤ 251) (h : ∀ d : Nat, d < 16 → 2 ≤ d → (d : Int) * d ≤ p → p % d ≠ 0) : isPr p = true := by
  unfold isPr; simp only [decide_eq_true_eq]; exact ⟨h1, h2, h⟩
set_option maxHeartbeats 400000 in
theorem IsPrime_any (p : Int) (w : World) :
    Calls Try.prog 34 #[.int .i64 p] w fun e w' => e = .returned (.bool (isPr p)) ∧ ∃ m, w' = w.drewN m := by
  by_cases h1 : 2 ≤ p
  · by_cases h2 : p ≤ 251
    · go_enter Try.func34, Try.ntmps34
      go_wp2
      go_loop [3] (fun v => ∃ d : Nat, 2 ≤ d ∧ d ≤ 16 ∧ (∀ e : Nat, e < d → 2 ≤ e → (e : Int) * e ≤ p → p % e ≠ 0) ∧ v = .int .i64 d) (fun v => 20 - (intOf v).toNat)
      case atStart => exact ⟨2, by omega, by omega, fun e h h' => absurd h (by omega), rfl⟩
      case round =>
        obtain ⟨d, hd2, hd16, hd, rfl⟩ := hrel
        have HD := Lib.hid hd
        clear hd
        have hm : (d : Int) * d ≤ 256 := by
          have : d * d ≤ 16 * 16 := Nat.mul_le_mul hd16 hd16
          omega
        have hm0 : (0 : Int) ≤ (d : Int) * d := Int.mul_nonneg (by omega) (by omega)
        by_cases hlt : (d : Int) * d ≤ p
        · have hd15 : d < 16 := by
            by_cases e : d = 16
            · subst e; omega
            · omega
          by_cases hz : p % d = 0
          · have hz' : (p % (d : Int) == 0) = true := by simp [hz]
            have HR := Lib.hid (isPr_hit d hd15 hd2 hlt hz)
            clear hz
            go_wp2
            go_ret
            exact ⟨ret_bool HR.out.symm, 0, rfl⟩
          · have hz' : (p % (d : Int) == 0) = false := by simp [hz]
            have HZ := Lib.hid hz
            clear hz
            go_wp2
            go_round
            case rel =>
              refine ⟨d + 1, by omega, by omega, ?_, by go_num⟩
              intro e he h2e hee
              by_cases hed : e = d
              · subst hed; exact HZ.out
              · exact HD.out e (by omega) h2e hee
            case measure => simp [intOf]; omega
        · have HR := Lib.hid (isPr_yes h1 h2 (fun e _ h2e hee => HD.out e (by
            apply Nat.lt_of_not_le
            intro hde
            have : d * d ≤ e * e := Nat.mul_le_mul hde hde
            omega) h2e hee))
          go_wp2
          go_ret
          exact ⟨ret_bool HR.out.symm, 0, rfl⟩
    · have HR := Lib.hid (isPr_no (p := p) (by omega))
      go_enter Try.func34, Try.ntmps34
      go_wp2
      go_ret
      exact ⟨ret_bool HR.out.symm, 0, rfl⟩
  · have HR := Lib.hid (isPr_no (p := p) (by omega))
    go_enter Try.func34, Try.ntmps34
    go_wp2
    go_ret
    exact ⟨ret_bool HR.out.symm, 0, rfl⟩
set_option maxHeartbeats 400000 in
theorem fpGood_any (p : Int) (w : World) :
    Calls Try.prog 28 #[.int .i64 p] w fun e w' => e = .returned (.bool (isPr p)) ∧ ∃ m, w' = w.drewN m := by
  by_cases h1 : 2 ≤ p
  · by_cases h2 : p ≤ 251
    · go_enter Try.func28, Try.ntmps28
      go_wp2
      go_loop [3] (fun v => ∃ d : Nat, 2 ≤ d ∧ d ≤ 16 ∧ (∀ e : Nat, e < d → 2 ≤ e → (e : Int) * e ≤ p → p % e ≠ 0) ∧ v = .int .i64 d) (fun v => 20 - (intOf v).toNat)
      case atStart => exact ⟨2, by omega, by omega, fun e h h' => absurd h (by omega), rfl⟩
      case round =>
        obtain ⟨d, hd2, hd16, hd, rfl⟩ := hrel
        have HD := Lib.hid hd
        clear hd
        have hm : (d : Int) * d ≤ 256 := by
          have : d * d ≤ 16 * 16 := Nat.mul_le_mul hd16 hd16
          omega
        have hm0 : (0 : Int) ≤ (d : Int) * d := Int.mul_nonneg (by omega) (by omega)
        by_cases hlt : (d : Int) * d ≤ p
        · have hd15 : d < 16 := by
            by_cases e : d = 16
            · subst e; omega
            · omega
          by_cases hz : p % d = 0
          · have hz' : (p % (d : Int) == 0) = true := by simp [hz]
            have HR := Lib.hid (isPr_hit d hd15 hd2 hlt hz)
            clear hz
            go_wp2
            go_ret
            exact ⟨ret_bool HR.out.symm, 0, rfl⟩
          · have hz' : (p % (d : Int) == 0) = false := by simp [hz]
            have HZ := Lib.hid hz
            clear hz
            go_wp2
            go_round
            case rel =>
              refine ⟨d + 1, by omega, by omega, ?_, by go_num⟩
              intro e he h2e hee
              by_cases hed : e = d
              · subst hed; exact HZ.out
              · exact HD.out e (by omega) h2e hee
            case measure => simp [intOf]; omega
        · have HR := Lib.hid (isPr_yes h1 h2 (fun e _ h2e hee => HD.out e (by
            apply Nat.lt_of_not_le
            intro hde
            have : d * d ≤ e * e := Nat.mul_le_mul hde hde
            omega) h2e hee))
          go_wp2
          go_ret
          exact ⟨ret_bool HR.out.symm, 0, rfl⟩
    · have HR := Lib.hid (isPr_no (p := p) (by omega))
      go_enter Try.func28, Try.ntmps28
      go_wp2
      go_ret
      exact ⟨ret_bool HR.out.symm, 0, rfl⟩
  · have HR := Lib.hid (isPr_no (p := p) (by omega))
    go_enter Try.func28, Try.ntmps28
    go_wp2
    go_ret
    exact ⟨ret_bool HR.out.symm, 0, rfl⟩
end Go.Proofs.Ytlmdckcohoddnaa
namespace Go.Proofs.Ytlmdckcohoddnaa
open Go.RowKit
/-- The slice (a, n, c) reads as the list l in the world w. -/
def Ints (w : World) (a : Option Addr) (n c : Nat) (l : List Int) : Prop :=
  n = l.length ∧ n ≤ c ∧ c ≤ maxLen ∧ (a = none → c = 0) ∧ ∃ g o, (0 < n → a = some ⟨g, o, none⟩) ∧ ∀ i, i < n → w.cell? ⟨g, o + i, none⟩ = some (.int .i64 (l.getD i 0))
theorem Ints.len {w a n c l} (h : Ints w a n c l) : n = l.length := h.1
theorem Ints.le {w a n c l} (h : Ints w a n c l) : (n : Int) ≤ 9223372036854775807 := by
  have := h.2.1; have := h.2.2.1; unfold maxLen at this; omega
theorem Ints.at {w a n c l} (h : Ints w a n c l) (k : Nat) (hk : k < n) : ∃ g o, a = some ⟨g, o, none⟩ ∧ w.cell? ⟨g, o + k, none⟩ = some (.int .i64 (l.getD k 0)) := by
  obtain ⟨_, _, _, _, g, o, h1, h2⟩ := h
  exact ⟨g, o, h1 (by omega), h2 k hk⟩
theorem Ints.drewN {w a n c l} (h : Ints w a n c l) (m : Nat) : Ints (w.drewN m) a n c l := h
theorem Ints.below {w w' a n c l} (h : Ints w a n c l) (hb : Below w.heap.size w w') : Ints w' a n c l := by
  obtain ⟨h1, h2, h3, hn, g, o, h4, h5⟩ := h
  exact ⟨h1, h2, h3, hn, g, o, h4, fun i hi => by rw [hb.cell (World.block_lt_of_cell? w _ (h5 i hi))]; exact h5 i hi⟩
theorem Ints.alloc {w a n c l} (h : Ints w a n c l) (ob : Obj) : Ints (w.alloc ob) a n c l :=
  h.below ((Below.refl _ _).alloc (Nat.le_refl _) _)
theorem below_of_drewN {w : World} (m : Nat) : Below w.heap.size w (w.drewN m) := below_drewN (Below.refl _ _) m
theorem below_of_quiet {w w' : World} (h : ∃ m, w' = w.drewN m) : Below w.heap.size w w' := by obtain ⟨m, rfl⟩ := h; exact below_of_drewN m
/-- A literal that lies at a new block's head. -/
theorem Ints.lit (w : World) (l : List Int) (e : TypeId) (h : l.length ≤ maxLen) : Ints (w.alloc (.cells (l.map (Value.int .i64)).toArray e)) (some ⟨w.heap.size, 0, none⟩) l.length l.length l := by
  refine ⟨rfl, Nat.le_refl _, h, fun h => (by cases h), w.heap.size, 0, fun _ => rfl, fun i hi => ?_⟩
  rw [cell_of_row (w.alloc _) w.heap.size (0 + i) _ e (0, 0) (heap_alloc_new w _)]
  simp [hi]
theorem Ints.lit2 (w : World) (x y : Int) (e : TypeId) : Ints (w.alloc (.cells #[.int .i64 x, .int .i64 y] e)) (some ⟨w.heap.size, 0, none⟩) 2 2 [x, y] := Ints.lit w [x, y] e (by simp [maxLen])
theorem Ints.lit1 (w : World) (x : Int) (e : TypeId) : Ints (w.alloc (.cells #[.int .i64 x] e)) (some ⟨w.heap.size, 0, none⟩) 1 1 [x] := Ints.lit w [x] e (by simp [maxLen])
theorem Ints.nil0 (w : World) : Ints w none 0 0 [] := ⟨rfl, Nat.le_refl _, Nat.zero_le _, fun _ => rfl, 0, 0, fun h => absurd h (by omega), fun i hi => absurd hi (by omega)⟩
theorem wf_range {x : Int} (h : (Lit.int .i64 x).wf = true) : -9223372036854775808 ≤ x ∧ x ≤ 9223372036854775807 := by
  have := bounds_i64 h
  omega
/-- All numbers of a list lie in a range. -/
def allB (l : List Int) (lo hi : Int) : Bool := l.all fun x => decide (lo ≤ x ∧ x ≤ hi)
theorem allB_iff (l : List Int) (lo hi : Int) : allB l lo hi = true ↔ ∀ x ∈ l, lo ≤ x ∧ x ≤ hi := by simp [allB]
theorem getD_mem (l : List Int) (k : Nat) (h : k < l.length) : l.getD k 0 ∈ l := by
  simp [List.getD, h]
theorem mem_getD (l : List Int) (x : Int) (h : x ∈ l) : ∃ k, k < l.length ∧ x = l.getD k 0 := by
  obtain ⟨k, hk, rfl⟩ := List.getElem_of_mem h
  exact ⟨k, hk, by simp [List.getD, hk]⟩
theorem allB_no (l : List Int) (lo hi : Int) (k : Nat) (h : k < l.length) (hx : ¬ (lo ≤ l.getD k 0 ∧ l.getD k 0 ≤ hi)) : allB l lo hi = false := by
  rw [Bool.eq_false_iff]; intro H; exact hx ((allB_iff ..).1 H _ (getD_mem l k h))
theorem allB_yes (l : List Int) (lo hi : Int) (h : ∀ j, j < l.length → lo ≤ l.getD j 0 ∧ l.getD j 0 ≤ hi) : allB l lo hi = true := by
  rw [allB_iff]; intro x hx; obtain ⟨k, hk, rfl⟩ := mem_getD l x hx; exact h k hk
set_option maxHeartbeats 400000 in
theorem l1All_any (a : Option Addr) (n c : Nat) (l : List Int) (lo hi : Int) (w : World) (h : Ints w a n c l) :
    Calls Try.prog 29 #[.slice a n c, .int .i64 lo, .int .i64 hi] w fun e w' => e = .returned (.bool (allB l lo hi)) ∧ ∃ m, w' = w.drewN m := by
  have hn := h.le
  go_enter Try.func29, Try.ntmps29
  go_wp2
  go_loop [11] (fun v => ∃ k : Nat, k ≤ n ∧ (∀ j, j < k → lo ≤ l.getD j 0 ∧ l.getD j 0 ≤ hi) ∧ v = .int .i64 k) (fun v => n - (intOf v).toNat)
  case atStart => exact ⟨0, Nat.zero_le _, fun j hj => absurd hj (by omega), rfl⟩
  case round =>
    obtain ⟨k, hk, hj, rfl⟩ := hrel
    have HJ := Lib.hid hj
    clear hj
    by_cases hlt : k < n
    · obtain ⟨g, o, rfl, hcell⟩ := h.at k hlt
      obtain ⟨x, hx⟩ : ∃ x, x = l.getD k 0 := ⟨_, rfl⟩
      rw [← hx] at hcell
      have HX := Lib.hid hx
      clear hx
      by_cases h1 : lo ≤ x
      · by_cases h2 : x ≤ hi
        · go_wp2
          go_round
          case rel => exact ⟨k + 1, by omega, fun j hj => by
            by_cases e : j = k
            · subst e; rw [← HX.out]; exact ⟨h1, h2⟩
            · exact HJ.out j (by omega), by go_num⟩
          case measure => simp [intOf]; omega
        · have HR := Lib.hid (allB_no l lo hi k (by rw [← h.len]; exact hlt) (by rw [← HX.out]; omega))
          go_wp2
          go_ret
          exact ⟨ret_bool HR.out.symm, 0, rfl⟩
      · have HR := Lib.hid (allB_no l lo hi k (by rw [← h.len]; exact hlt) (by rw [← HX.out]; omega))
        go_wp2
        go_ret
        exact ⟨ret_bool HR.out.symm, 0, rfl⟩
    · have HR := Lib.hid (allB_yes l lo hi (fun j hj => HJ.out j (by have := h.len; omega)))
      go_wp2
      go_ret
      exact ⟨ret_bool HR.out.symm, 0, rfl⟩
end Go.Proofs.Ytlmdckcohoddnaa
namespace Go.Proofs.Ytlmdckcohoddnaa
open Go.RowKit
/-- The block that a row with room may be written in. -/
def rowOf (a : Option Addr) (c : Nat) : Option Nat := if c = 0 then none else a.map Addr.block
/-- The slice (a, n, c) of elements of sz cells reads as the cells xs. -/
def RowC (w : World) (a : Option Addr) (n c sz : Nat) (xs : List Value) : Prop :=
  xs.length = n * sz ∧ n ≤ c ∧ c ≤ maxLen ∧ (a = none → c = 0) ∧ ∃ g o, (0 < n → a = some ⟨g, o, none⟩) ∧ ∀ i u, xs[i]? = some u → w.cell? ⟨g, o + i, none⟩ = some u
/-- The slice (a, n, c) owns the cells xs, in a block from b on (if it has any room at all). -/
def OwnC (w : World) (b : Nat) (a : Option Addr) (n c e sz : Nat) (xs : List Value) : Prop :=
  xs.length = n * sz ∧ n ≤ c ∧ c ≤ maxLen ∧ (a = none → c = 0) ∧
  (0 < c → ∃ g cur, a = some ⟨g, 0, none⟩ ∧ b ≤ g ∧ w.heap[g]? = some (.cells cur e (0, 0)) ∧ cur.size = c * sz ∧ cur.toList.take (n * sz) = xs)
theorem OwnC.below {w w' b a n c e sz xs} (h : OwnC w b a n c e sz xs) (hb : Below w.heap.size w w') : OwnC w' b a n c e sz xs :=
  ⟨h.1, h.2.1, h.2.2.1, h.2.2.2.1, fun hc => by
    obtain ⟨g, cur, h1, h2, h3, h4⟩ := h.2.2.2.2 hc
    exact ⟨g, cur, h1, h2, by rw [hb.block g (Array.getElem?_eq_some_iff.1 h3).1]; exact h3, h4⟩⟩
theorem OwnC.lower {w b b' a n c e sz xs} (h : OwnC w b a n c e sz xs) (hb : b' ≤ b) : OwnC w b' a n c e sz xs :=
  ⟨h.1, h.2.1, h.2.2.1, h.2.2.2.1, fun hc => by
    obtain ⟨g, cur, h1, h2, h3⟩ := h.2.2.2.2 hc
    exact ⟨g, cur, h1, by omega, h3⟩⟩
/-- Two rows with room lie in different blocks. -/
def Apart (a : Option Addr) (c : Nat) (a' : Option Addr) (c' : Nat) : Prop := ∀ x y, 0 < c → 0 < c' → a = some x → a' = some y → x.block ≠ y.block
theorem Apart.symm {a c a' c'} (h : Apart a c a' c') : Apart a' c' a c := fun x y h1 h2 hx hy => (h y x h2 h1 hy hx).symm
theorem rowOf_ne {g : Nat} {a' : Option Addr} {c' : Nat} (h : ∀ y, 0 < c' → a' = some y → g ≠ y.block) : some g ≠ rowOf a' c' := by
  unfold rowOf
  intro e
  split at e
  · cases e
  · cases a' with
    | none => simp at e
    | some y => simp at e; exact h y (by omega) rfl e
theorem OwnC.grown {w w' : World} {b a n c e sz xs} {a' : Option Addr} {c' : Nat} (h : OwnC w b a n c e sz xs) (hg : w.grownBy w' (rowOf a' c')) (hd : Apart a c a' c') : OwnC w' b a n c e sz xs :=
  ⟨h.1, h.2.1, h.2.2.1, h.2.2.2.1, fun hc => by
    obtain ⟨g, cur, h1, h2, h3, h4⟩ := h.2.2.2.2 hc
    exact ⟨g, cur, h1, h2, by rw [hg.block g (Array.getElem?_eq_some_iff.1 h3).1 (rowOf_ne fun y hc' hy => hd _ _ hc hc' h1 hy)]; exact h3, h4⟩⟩
theorem OwnC.range {w b a n c e sz xs} (h : OwnC w b a n c e sz xs) : ∀ x, 0 < c → a = some x → b ≤ x.block ∧ x.block < w.heap.size := by
  intro x hc hx
  obtain ⟨g, cur, h1, h2, h3, _⟩ := h.2.2.2.2 hc
  rw [h1] at hx; cases hx
  exact ⟨h2, (Array.getElem?_eq_some_iff.1 h3).1⟩
theorem OwnC.apart {w w' : World} {b b' a n c e sz xs a' n' c' e' sz' xs'} (h : OwnC w b a n c e sz xs) (h' : OwnC w' b' a' n' c' e' sz' xs') (hb : w.heap.size ≤ b') : Apart a c a' c' := fun x y hc hc' hx hy => by
  have := (h.range x hc hx).2; have := (h'.range y hc' hy).1; omega
theorem OwnC.nil0 (w : World) (b e sz : Nat) (a : Option Addr) : OwnC w b a 0 0 e sz [] := ⟨by simp, Nat.le_refl _, Nat.zero_le _, fun _ => rfl, fun h => absurd h (by omega)⟩
theorem OwnC.lit (w : World) (b n e sz : Nat) (xs : List Value) (hb : b ≤ w.heap.size) (hn : xs.length = n * sz) (hm : n ≤ maxLen) : OwnC (w.alloc (.cells xs.toArray e)) b (some ⟨w.heap.size, 0, none⟩) n n e sz xs :=
  ⟨hn, Nat.le_refl _, hm, fun h => (by cases h), fun _ => ⟨w.heap.size, xs.toArray, rfl, hb, heap_alloc_new w _, by simp [hn], by rw [← hn]; simp⟩⟩
theorem OwnC.of_owns {w b e sz v n xs} (h : w.ownsRow b e sz v n xs) : ∃ a c, v = .slice a n c ∧ OwnC w b a n c e sz xs := by
  rcases h.2 with ⟨h1, h2⟩ | ⟨g, cap, cur, h1, h2, h3, h4, h5, h6, h7⟩
  · subst h2
    have : xs = [] := List.eq_nil_of_length_eq_zero (by simpa using h.1)
    subst this
    exact ⟨_, _, h1, OwnC.nil0 _ _ _ _ _⟩
  · exact ⟨_, _, h1, h.1, h4, h5, fun h => (by cases h), fun _ => ⟨g, cur, rfl, h2, h3, h6, h7⟩⟩
theorem OwnC.owns {w b a n c e sz xs} (h : OwnC w b a n c e sz xs) (hc : 0 < c) : w.ownsRow b e sz (.slice a n c) n xs := by
  obtain ⟨g, cur, h1, h2, h3, h4, h5⟩ := h.2.2.2.2 hc
  exact ⟨h.1, .inr ⟨g, c, cur, by rw [h1], h2, h3, h.2.1, h.2.2.1, h4, h5⟩⟩
theorem OwnC.row {w b a n c e sz xs} (h : OwnC w b a n c e sz xs) : RowC w a n c sz xs := by
  refine ⟨h.1, h.2.1, h.2.2.1, h.2.2.2.1, ?_⟩
  by_cases hc : 0 < c
  · obtain ⟨g, cur, h1, h2, h3, h4, h5⟩ := h.2.2.2.2 hc
    refine ⟨g, 0, fun _ => h1, fun i u hu => ?_⟩
    rw [Nat.zero_add, cell_of_row w g i cur e (0, 0) h3]
    rw [← h5, List.getElem?_take] at hu
    split at hu
    · simpa using hu
    · cases hu
  · have h1 := h.1
    obtain rfl : n = 0 := by have := h.2.1; omega
    have : xs = [] := List.eq_nil_of_length_eq_zero (by simpa using h1)
    subst this
    exact ⟨0, 0, fun h => absurd h (by omega), fun i u hu => by simp at hu⟩
/-- A store into an owned row: its cell k. -/
theorem OwnC.atC {w b a n c e sz xs} (h : OwnC w b a n c e sz xs) (k : Nat) (hk : k < n * sz) : ∃ g, a = some ⟨g, 0, none⟩ ∧ b ≤ g ∧ g < w.heap.size ∧ (∃ u, xs[k]? = some u ∧ w.cell? ⟨g, k, none⟩ = some u) ∧ w.frozen? ⟨g, k, none⟩ = false ∧
    ∀ u, OwnC (w.setCell ⟨g, k, none⟩ u) b (some ⟨g, 0, none⟩) n c e sz (xs.set k u) := by
  have hn : 0 < n := by cases n with
    | zero => simp at hk
    | succ n => omega
  have hc : 0 < c := by have := h.2.1; omega
  obtain ⟨g, cur, h1, h2, h3, h4, h5⟩ := h.2.2.2.2 hc
  have ho := h.owns hc
  subst h1
  have hx : k < xs.length := by rw [h.1]; exact hk
  refine ⟨g, rfl, h2, (Array.getElem?_eq_some_iff.1 h3).1, ⟨xs[k], by simp [hx], by rw [ho.cellAt k hk]; simp [hx]⟩, ho.frozenAt k, fun u => ?_⟩
  obtain ⟨a', c', e', ho'⟩ := OwnC.of_owns (ho.stored k u).1
  cases e'
  exact ho'
theorem RowC.below {w w' a n c sz xs} (h : RowC w a n c sz xs) (hb : Below w.heap.size w w') : RowC w' a n c sz xs := by
  obtain ⟨h1, h2, h3, h4, g, o, h5, h6⟩ := h
  exact ⟨h1, h2, h3, h4, g, o, h5, fun i u hu => by rw [hb.cell (World.block_lt_of_cell? w _ (h6 i u hu))]; exact h6 i u hu⟩
theorem OwnC.prefix_row {w b a n m c e sz xs xs'} (h : OwnC w b a (n + m) c e sz (xs ++ xs')) (hx : xs.length = n * sz) : RowC w a n c sz xs := by
  obtain ⟨h1, h2, h3, h4, g, o, h5, h6⟩ := h.row
  exact ⟨hx, by omega, h3, h4, g, o, fun hn => h5 (by omega), fun i u hu => h6 i u (by
    have hi := (List.getElem?_eq_some_iff.1 hu).1
    rw [List.getElem?_append_left hi]; exact hu)⟩
theorem RowC.keep {w w' a n c sz xs} (h : RowC w a n c sz xs) (hg : w.grownBy w' none) : RowC w' a n c sz xs := by
  obtain ⟨h1, h2, h3, h4, g, o, h5, h6⟩ := h
  exact ⟨h1, h2, h3, h4, g, o, h5, fun i u hu => hg.cell (h6 i u hu) (by simp)⟩
theorem grownBy_some {w w' : World} (h : w.grownBy w' none) (r : Option Nat) : w.grownBy w' r := ⟨h.os, h.tape, h.output, h.size, fun k hk _ => h.block k hk (by simp)⟩
/-- APPEND, WHATEVER THE SHAPES: an owned row, a row that is read (nil, empty or not). The new row is owned, the old one still reads. -/
theorem run_app {P : Program} (w : World) (t ty : TypeId)
    (b e : Nat) (i : TypeInfo) (z : Value) (sz bytes : Nat) (ht : P.underlying t = some (.slice e)) (hi : P.info? e = some i) (hz : i.zero = some z)
    (hsize : i.size = sz) (hby : i.bytes = bytes) (hzs : z.cells.size = sz) (hsz : 0 < sz)
    (a : Option Addr) (n c : Nat) (xs : List Value) (hown : OwnC w b a n c e sz xs)
    (a' : Option Addr) (m c' : Nat) (xs' : List Value) (hrow : RowC w a' m c' sz xs') (h1 : ∀ u ∈ xs', u.oneCell' = true)
    (hbytes : (n + m) * bytes ≤ 140737488355328) (hmax : n + m ≤ maxLen) (hbase : b ≤ w.heap.size) :
    ∃ a2 c2 w', (Builtin.append_ #[t, t] ty #[.slice a n c, .slice a' m c']).run P w = .ok (.slice a2 (n + m) c2) w' ∧ OwnC w' b a2 (n + m) c2 e sz (xs ++ xs') ∧ w.grownBy w' (rowOf a c) ∧ RowC w' a n c sz xs := by
  by_cases hm : m = 0
  · subst hm
    have hx' : xs' = [] := List.eq_nil_of_length_eq_zero (by simpa using hrow.1)
    subst hx'
    have hnc := hown.2.1
    refine ⟨a, c, w, ?_, by simpa using hown, World.grownBy.refl _ _, hown.row⟩
    cases a' with
    | none => cases a <;> simp [Builtin.append_, run_underlying ht, sizeOf, typeInfo, hi, Builtin.lenOf, Builtin.firstCells, hnc, storeCells]
    | some y =>
      have hf := run_firstCells_some (P := P) w i.size 0 y 0 c' [] (by simp) (fun j u hu => by simp at hu)
      cases a <;> simp [Builtin.append_, run_underlying ht, sizeOf, typeInfo, hi, Builtin.lenOf, hf, hnc, storeCells]
  · obtain ⟨hr1, hr2, hr3, hr4, g', o', hr5, hr6⟩ := hrow
    obtain rfl := hr5 (by omega)
    have hadd : ∀ (g o j : Nat), (⟨g, o, none⟩ : Addr).add j = ⟨g, o + j, none⟩ := fun g o j => by unfold Addr.add; split <;> simp_all
    have hnews : ∀ j u, xs'[j]? = some u → w.cell? ((⟨g', o', none⟩ : Addr).add j) = some u := fun j u hu => by rw [hadd]; exact hr6 j u hu
    by_cases hc : 0 < c
    · obtain ⟨g, cur, hag, hbg, hgg, hcs, hct⟩ := hown.2.2.2.2 hc
      have hob := hown.owns hc
      have hro : rowOf a c = some g := by unfold rowOf; rw [if_neg (by omega), hag]; rfl
      subst hag
      by_cases hroom : n + m ≤ c
      · obtain ⟨w', hrun, r1, r2⟩ := run_append_fits (P := P) w b t ty e i sz ht hi hsize g n c xs hob ⟨g', o', none⟩ m c' xs' hr1 hnews h1 hroom
        obtain ⟨a2, c2, e2, h2⟩ := OwnC.of_owns r1
        cases e2
        exact ⟨_, _, w', hrun, h2, by rw [hro]; exact r2, h2.prefix_row hown.1⟩
      · obtain ⟨v', w', hrun, r1, r2⟩ := run_append_arg_grows (P := P) w t ty e i z sz bytes ht hi hz hsize hby hzs hsz ⟨g, 0, none⟩ n c xs hown.1 (fun j u hu => by
          obtain ⟨q1, q2, q3, q4, gg, oo, q5, q6⟩ := hown.row
          have hn0 : 0 < n := by
            have := (List.getElem?_eq_some_iff.1 hu).1
            rw [hown.1] at this
            cases n with
            | zero => simp at this
            | succ n => omega
          have := q5 hn0
          cases this
          rw [hadd]; exact q6 j u hu) ⟨g', o', none⟩ m c' xs' hr1 hnews (by omega) hmax hbytes
        obtain ⟨a2, c2, rfl, h2⟩ := OwnC.of_owns r1
        exact ⟨_, _, w', hrun, h2.lower hbase, grownBy_some r2 _, hown.row.keep r2⟩
    · have hn0 : n = 0 := by have := hown.2.1; omega
      have hc0 : c = 0 := by omega
      subst hn0; subst hc0
      have hxe : xs = [] := List.eq_nil_of_length_eq_zero (by simpa using hown.1)
      subst hxe
      cases a with
      | none =>
        obtain ⟨v', w', hrun, r1, r2, _⟩ := run_append_own (P := P) w w.heap.size t ty e i z sz bytes ht hi hz hsize hby hzs hsz (.slice none 0 0) 0 [] (World.ownsRow_nil w _ e sz) ⟨g', o', none⟩ m c' xs' hr1 hnews h1 hmax hbytes (Nat.le_refl _)
        obtain ⟨a2, c2, rfl, h2⟩ := OwnC.of_owns r1
        exact ⟨_, _, w', hrun, h2.lower hbase, by unfold rowOf; exact r2, hown.row.keep r2⟩
      | some y =>
        obtain ⟨v', w', hrun, r1, r2⟩ := run_append_arg_grows (P := P) w t ty e i z sz bytes ht hi hz hsize hby hzs hsz y 0 0 [] (by simp) (fun j u hu => by simp at hu) ⟨g', o', none⟩ m c' xs' hr1 hnews (by omega) hmax hbytes
        obtain ⟨a2, c2, rfl, h2⟩ := OwnC.of_owns r1
        exact ⟨_, _, w', hrun, h2.lower hbase, grownBy_some r2 _, hown.row.keep r2⟩
/-- The slice (a, n, c) owns the list l of integers in blocks from b on. -/
def Own (w : World) (b : Nat) (a : Option Addr) (n c : Nat) (l : List Int) : Prop := OwnC w b a n c 3 1 (l.map (Value.int .i64))
theorem Own.len {w b a n c l} (h : Own w b a n c l) : n = l.length := by have := h.1; simpa using this.symm
theorem Own.cap {w b a n c l} (h : Own w b a n c l) : n ≤ c ∧ c ≤ maxLen := ⟨h.2.1, h.2.2.1⟩
theorem Ints.rowC {w a n c l} (h : Ints w a n c l) : RowC w a n c 1 (l.map (Value.int .i64)) := by
  obtain ⟨h1, h2, h3, h4, g, o, h5, h6⟩ := h
  refine ⟨by simp [h1], h2, h3, h4, g, o, h5, fun i u hu => ?_⟩
  simp only [List.getElem?_map, Option.map_eq_some_iff] at hu
  obtain ⟨x, hx, rfl⟩ := hu
  have hi : i < l.length := (List.getElem?_eq_some_iff.1 hx).1
  rw [h6 i (by omega)]
  simp [List.getD, hx]
theorem Ints.of_rowC {w a n c} {l : List Int} (h : RowC w a n c 1 (l.map (Value.int .i64))) : Ints w a n c l := by
  obtain ⟨h1, h2, h3, h4, g, o, h5, h6⟩ := h
  have hn : n = l.length := by simpa using h1.symm
  refine ⟨hn, h2, h3, h4, g, o, h5, fun i hi => ?_⟩
  have hl : i < l.length := by omega
  exact h6 i _ (by simp [List.getD, hl])
theorem Ints.cells {w a n c l} (h : Ints w a n c l) (hn : 0 < n) : ∃ g o, a = some ⟨g, o, none⟩ ∧ ∀ k, k < n → w.cell? ⟨g, o + k, none⟩ = some (.int .i64 (l.getD k 0)) := by
  obtain ⟨_, _, _, _, g, o, h1, h2⟩ := h
  exact ⟨g, o, h1 hn, h2⟩
theorem Own.ints {w b a n c l} (h : Own w b a n c l) : Ints w a n c l := by
  obtain ⟨h1, h2, h3, h4, g, o, h5, h6⟩ := h.row
  refine ⟨h.len, h2, h3, h4, g, o, h5, fun i hi => ?_⟩
  have hl : i < l.length := by have := h.len; omega
  exact h6 i _ (by simp [List.getD, hl])
theorem Own.below {w w' b a n c l} (h : Own w b a n c l) (hb : Below w.heap.size w w') : Own w' b a n c l := OwnC.below h hb
theorem Own.lower {w b b' a n c l} (h : Own w b a n c l) (hb : b' ≤ b) : Own w b' a n c l := OwnC.lower h hb
theorem Own.drewN {w b a n c l} (h : Own w b a n c l) (m : Nat) : Own (w.drewN m) b a n c l := h.below (below_of_drewN m)
theorem Own.drew {w b a n c l} (h : Own w b a n c l) : Own w.drew b a n c l := h.below ((Below.refl _ _).drew)
theorem Ints.drew {w a n c l} (h : Ints w a n c l) : Ints w.drew a n c l := h.below ((Below.refl _ _).drew)
theorem Own.alloc {w b a n c l} (h : Own w b a n c l) (ob : Obj) : Own (w.alloc ob) b a n c l := h.below ((Below.refl _ _).alloc (Nat.le_refl _) _)
theorem Own.nil0 (w : World) (b : Nat) (a : Option Addr) : Own w b a 0 0 [] := OwnC.nil0 w b 3 1 a
theorem Own.grown {w w' : World} {b a n c l} {a' : Option Addr} {c' : Nat} (h : Own w b a n c l) (hg : w.grownBy w' (rowOf a' c')) (hd : Apart a c a' c') : Own w' b a n c l := OwnC.grown h hg hd
theorem Own.range {w b a n c l} (h : Own w b a n c l) : ∀ x, 0 < c → a = some x → b ≤ x.block ∧ x.block < w.heap.size := OwnC.range h
theorem Own.apart {w w' : World} {b b' a n c l a' n' c' l'} (h : Own w b a n c l) (h' : Own w' b' a' n' c' l') (hb : w.heap.size ≤ b') : Apart a c a' c' := OwnC.apart h h' hb
/-- A store into an owned row. -/
theorem Own.at {w b a n c l} (h : Own w b a n c l) (k : Nat) (hk : k < n) : ∃ g, a = some ⟨g, 0, none⟩ ∧ b ≤ g ∧ g < w.heap.size ∧ w.cell? ⟨g, k, none⟩ = some (.int .i64 (l.getD k 0)) ∧ w.frozen? ⟨g, k, none⟩ = false ∧
    ∀ x, Own (w.setCell ⟨g, k, none⟩ (.int .i64 x)) b (some ⟨g, 0, none⟩) n c (l.set k x) := by
  obtain ⟨g, rfl, hb, hg, ⟨u, hu, hc⟩, hf, hs⟩ := OwnC.atC h k (by omega)
  have hl : k < l.length := by have := h.len; omega
  refine ⟨g, rfl, hb, hg, ?_, hf, fun x => by unfold Own; rw [List.map_set]; exact hs _⟩
  rw [hc, ← hu]
  simp [List.getD, hl]
theorem Own.lit (w : World) (b : Nat) (l : List Int) (hb : b ≤ w.heap.size) (h : l.length ≤ maxLen) : Own (w.alloc (.cells (l.map (Value.int .i64)).toArray 3)) b (some ⟨w.heap.size, 0, none⟩) l.length l.length l :=
  OwnC.lit w b l.length 3 1 _ hb (by simp) h
theorem Own.of_owns {w b v n} {l : List Int} (h : w.ownsRow b 3 1 v n (l.map (Value.int .i64))) : ∃ a c, v = .slice a n c ∧ Own w b a n c l := OwnC.of_owns h
/-- What is read stays where another row is written. -/
theorem Ints.grown {w w' : World} {a n c l} {a' : Option Addr} {c' : Nat} (h : Ints w a n c l) (hg : w.grownBy w' (rowOf a' c')) (hd : ∀ x y, 0 < n → 0 < c' → a = some x → a' = some y → x.block ≠ y.block) : Ints w' a n c l := by
  obtain ⟨h1, h2, h3, hn, g, o, h4, h5⟩ := h
  exact ⟨h1, h2, h3, hn, g, o, h4, fun i hi => hg.cell (h5 i hi) (rowOf_ne fun y hc hy => hd ⟨g, o, none⟩ y (by omega) hc (h4 (by omega)) hy)⟩
theorem Ints.range {w a n c l} (h : Ints w a n c l) : ∀ x, 0 < n → a = some x → 0 ≤ x.block ∧ x.block < w.heap.size := by
  intro x hn hx
  obtain ⟨g, o, hg, h1⟩ := h.at 0 hn
  rw [hg] at hx
  cases hx
  exact ⟨Nat.zero_le _, World.block_lt_of_cell? w _ h1⟩
theorem Ints.apart {w w' : World} {b' a n c l a' n' c' l'} (h : Ints w a n c l) (h' : Own w' b' a' n' c' l') (hb : w.heap.size ≤ b') : ∀ x y, 0 < n → 0 < c' → a = some x → a' = some y → x.block ≠ y.block := fun x y hn hc hx hy => by
  have := (h.range x hn hx).2; have := (h'.range y hc hy).1; omega
theorem getD_set (l : List Int) (k i : Nat) (x : Int) : (l.set k x).getD i 0 = if i = k ∧ k < l.length then x else l.getD i 0 := by
  simp only [List.getD, List.getElem?_set]
  by_cases h : k = i
  · subst h
    by_cases h2 : k < l.length
    · simp [h2]
    · simp [h2]
  · rw [if_neg h, if_neg (by omega)]
theorem info_int : (Try.prog.info? 3).map (fun i => (i.zero, i.size, i.bytes)) = some (some (.int .i64 0), 1, 8) := by kernel_rfl
theorem below_grownBy {B : Nat} {w w' : World} {a : Option Addr} {c : Nat} (hg : w.grownBy w' (rowOf a c)) (hB : B ≤ w.heap.size) (h : ∀ x, 0 < c → a = some x → B ≤ x.block) : Below B w w' :=
  (Below.refl _ _).grown hg hB (fun k hk => by
    unfold rowOf at hk
    split at hk
    · cases hk
    · cases a with
      | none => simp at hk
      | some x => simp at hk; subst hk; exact h x (by omega) rfl)
/-- Behind a callee that was called in a world with new blocks. -/
theorem below_a1 {w w' : World} {o : Obj} (h : Below (w.alloc o).heap.size (w.alloc o) w') : Below w.heap.size w w' := ((Below.refl _ _).alloc (Nat.le_refl _) _).trans (h.mono (by simp))
/-- Append on integers: what it leaves. -/
theorem run_appI (w : World) (ty : TypeId) (b : Nat) (a : Option Addr) (n c : Nat) (l : List Int) (hown : Own w b a n c l) (a' : Option Addr) (m c' : Nat) (l' : List Int) (hrow : Ints w a' m c' l') (hlen : n + m ≤ 1000000000000) (hbase : b ≤ w.heap.size) :
    ∃ a2 c2 w', (Builtin.append_ #[23, 23] ty #[.slice a n c, .slice a' m c']).run Try.prog w = .ok (.slice a2 (n + m) c2) w' ∧ Own w' b a2 (n + m) c2 (l ++ l') ∧ Below b w w' ∧ w.grownBy w' (rowOf a c) ∧ Ints w' a n c l := by
  obtain ⟨i0, hi, hz0, hz1, hz2⟩ := info_parts info_int
  obtain ⟨a2, c2, w', hrun, h1, h2, h3⟩ := run_app w 23 ty b 3 i0 (.int .i64 0) 1 8 Try.underlying23 hi hz0 hz1 hz2 rfl (by decide) a n c _ hown a' m c' _ hrow.rowC (by
    intro u hu
    simp only [List.mem_map] at hu
    obtain ⟨y, _, rfl⟩ := hu
    rfl) (by omega) (by unfold maxLen; omega) hbase
  exact ⟨a2, c2, w', hrun, by unfold Own; rw [List.map_append]; exact h1, below_grownBy h2 hbase (fun x hc hx => (hown.range x hc hx).1), h2, Ints.of_rowC h3⟩
theorem wp_appI (w : World) {o : Oper} {act : Act} {K : Act → World → Prop} {Q : Exit → Act → World → Prop} (s x : Operand)
    (ho : o.op = .call { callee := .builtin .append, args := #[s, x], argTypes := #[23, 23] })
    (b : Nat) (a : Option Addr) (n c : Nat) (l : List Int) (hs : act.eval s = .slice a n c) (hown : Own w b a n c l)
    (a' : Option Addr) (m c' : Nat) (l' : List Int) (hx : act.eval x = .slice a' m c') (hrow : Ints w a' m c' l')
    (hlen : n + m ≤ 1000000000000) (hbase : b ≤ w.heap.size)
    (h : ∀ a2 c2 w', Own w' b a2 (n + m) c2 (l ++ l') → Below b w w' → w.grownBy w' (rowOf a c) → Ints w' a n c l → K (act.put o.dst (.slice a2 (n + m) c2)) w') : o.wp Try.prog act w K Q := by
  obtain ⟨a2, c2, w', hrun, h1, h2, h3, h4⟩ := run_appI w o.type b a n c l hown a' m c' l' hrow hlen hbase
  unfold Oper.wp
  simp [execOp, ho, resolve, invoke, builtin, hs, hx, hrun, Result.andThen]
  exact h a2 c2 w' h1 h2 h3 h4
theorem wpList_appI (w : World) {ops : Array Oper} {rest : List Oper} {o : Oper} {act : Act} {Q : Exit → Act → World → Prop} (hgd : o.guard = none) (s x : Operand)
    (ho : o.op = .call { callee := .builtin .append, args := #[s, x], argTypes := #[23, 23] })
    (b : Nat) (a : Option Addr) (n c : Nat) (l : List Int) (hs : act.eval s = .slice a n c) (hown : Own w b a n c l)
    (a' : Option Addr) (m c' : Nat) (l' : List Int) (hx : act.eval x = .slice a' m c') (hrow : Ints w a' m c' l')
    (hlen : n + m ≤ 1000000000000) (hbase : b ≤ w.heap.size)
    (h : ∀ a2 c2 w', Own w' b a2 (n + m) c2 (l ++ l') → Below b w w' → w.grownBy w' (rowOf a c) → wpList Try.prog ops Q rest (act.put o.dst (.slice a2 (n + m) c2)) w') : wpList Try.prog ops Q (o :: rest) act w :=
  wpList_plain hgd fun _ hK => wp_appI w s x ho b a n c l hs hown a' m c' l' hx hrow hlen hbase fun a2 c2 w' h1 h2 h3 _ => hK _ _ (h a2 c2 w' h1 h2 h3)
/-- The same inside a region that draws its order. -/
theorem step_appI (w : World) {ops : Array Oper} {o : Oper} {act : Act} {K : Act → World → Prop} {Q : Exit → Act → World → Prop} {E : Prop} (hgd : o.guard = none) (s x : Operand)
    (ho : o.op = .call { callee := .builtin .append, args := #[s, x], argTypes := #[23, 23] })
    (b : Nat) (a : Option Addr) (n c : Nat) (l : List Int) (hs : act.eval s = .slice a n c) (hown : Own w b a n c l)
    (a' : Option Addr) (m c' : Nat) (l' : List Int) (hx : act.eval x = .slice a' m c') (hrow : Ints w a' m c' l')
    (hlen : n + m ≤ 1000000000000) (hbase : b ≤ w.heap.size)
    (h : ∀ a2 c2 w', Own w' b a2 (n + m) c2 (l ++ l') → Below b w w' → w.grownBy w' (rowOf a c) → Ints w' a n c l → K (act.put o.dst (.slice a2 (n + m) c2)) w') :
    if Region.wanted o (yielded ops act.tmps) = true then Oper.wp Try.prog o act w K Q else E := by
  rw [if_pos (by simp [Region.wanted, hgd])]
  exact wp_appI w s x ho b a n c l hs hown a' m c' l' hx hrow hlen hbase h
/-- Two slices that read alike are equal to the laws. -/
theorem eqIntS_same (a : Option Addr) (n c : Nat) (a' : Option Addr) (n' c' : Nat) (l : List Int) (w : World) (h : Ints w a n c l) (h' : Ints w a' n' c' l) :
    Calls Try.prog 19 #[.slice a n c, .slice a' n' c'] w fun e w' => e = .returned (.bool true) ∧ ∃ m, w' = w.drewN m := by
  obtain rfl : n = n' := by rw [h.len, h'.len]
  have hn := h.le
  go_enter Try.func19, Try.ntmps19
  go_wp2
  go_loopw [5] (fun v wr => ∃ k : Nat, k ≤ n ∧ v = .int .i64 k ∧ ∃ m, wr = w.drewN m) (fun v _ => n - (intOf v).toNat)
  case atStart => exact ⟨0, Nat.zero_le _, rfl, 0, rfl⟩
  case round =>
    obtain ⟨k, hk, rfl, m, rfl⟩ := hrel
    by_cases hlt : k < n
    · obtain ⟨g, o, rfl, hcell⟩ := h.at k hlt
      obtain ⟨g', o', rfl, hcell'⟩ := h'.at k hlt
      have hb : ((l.getD k 0 != l.getD k 0) : Bool) = false := by simp
      go_wp2
      go_quiet (fail)
      go_wp2
      go_roundw
      case rel => exact ⟨k + 1, by omega, by go_num, _, by first | rfl | exact World.drewN_drewN ..⟩
      case measure => simp [intOf]; omega
    · go_wp2
      go_ret
      exact ⟨rfl, _, rfl⟩
/-- The numbers from k on. -/
def UpFrom (k : Int) (l : List Int) : Prop := ∀ i, i < l.length → l.getD i 0 = k + i
theorem grownBy_setCell {w w' : World} {row : Option Nat} (h : w.grownBy w' row) (p : Addr) (u : Value) (hp : row = some p.block) : w.grownBy (w'.setCell p u) row :=
  ⟨h.os, h.tape, h.output, by have := h.size; simpa [World.setCell] using this, fun k hk hne => by
    rw [Below.heap_setCell _ _ _ _ (by intro e; subst e; exact hne hp.symm)]; exact h.block k hk hne⟩
set_option maxHeartbeats 1000000 in
theorem markIntS_any (a : Option Addr) (n c b : Nat) (l : List Int) (k0 : Int) (w : World) (h : Own w b a n c l) (h0 : 0 ≤ k0) (h1 : k0 + n ≤ 4000000000000000000) :
    Calls Try.prog 22 #[.slice a n c, .int .i64 k0] w fun e w' => e = .returned (.int .i64 (k0 + n)) ∧ (∃ l', Own w' b a n c l' ∧ UpFrom k0 l') ∧ w.grownBy w' (rowOf a c) := by
  have hn := h.ints.le
  go_enter Try.func22, Try.ntmps22
  go_wp2
  go_loopw [1, 5] (fun u v wr => ∃ k : Nat, k ≤ n ∧ u = .int .i64 (k0 + k) ∧ v = .int .i64 k ∧ w.grownBy wr (rowOf a c) ∧ ∃ l', Own wr b a n c l' ∧ ∀ i, i < k → l'.getD i 0 = k0 + i) (fun _ v _ => n - (intOf v).toNat)
  case atStart => exact ⟨0, Nat.zero_le _, by simp, rfl, World.grownBy.refl _ _, l, h, fun i hi => absurd hi (by omega)⟩
  case round =>
    obtain ⟨k, hk, rfl, rfl, hbel, l', own, hl⟩ := hrel
    have HL := Lib.hid hl
    clear hl
    by_cases hlt : k < n
    · obtain ⟨g, rfl, hb', hg', hc', hf', hst⟩ := own.at k hlt
      have hst' := hst (k0 + k)
      have HST := Lib.hid hst'
      have HG := Lib.hid (grownBy_setCell hbel ⟨g, k, none⟩ (.int .i64 (k0 + k)) (by unfold rowOf; rw [if_neg (by have := h.cap; omega)]; rfl))
      clear hst hst' hbel
      go_wp2
      go_roundw
      case rel => exact ⟨k + 1, by omega, v_int (by omega), by go_num, HG.out, _, HST.out, fun i hi => by
        rw [getD_set]
        by_cases e : i = k
        · subst e; rw [if_pos ⟨rfl, by have := own.len; omega⟩]
        · rw [if_neg (by omega)]; exact HL.out i (by omega)⟩
      case measure => simp [intOf]; omega
    · obtain rfl : k = n := by omega
      go_wp2
      go_ret
      exact ⟨rfl, ⟨l', own, fun i hi => HL.out i (by have := own.len; omega)⟩, hbel⟩
set_option maxHeartbeats 1000000 in
theorem heldIntS_any (a : Option Addr) (n c : Nat) (l : List Int) (k0 : Int) (w : World) (h : Ints w a n c l) (hu : UpFrom k0 l) (h0 : 0 ≤ k0) (h1 : k0 + n ≤ 4000000000000000000) :
    Calls Try.prog 25 #[.slice a n c, .int .i64 k0] w fun e w' => e = .returned (.int .i64 (k0 + n)) ∧ ∃ m, w' = w.drewN m := by
  have hn := h.le
  have HU := Lib.hid hu
  clear hu
  go_enter Try.func25, Try.ntmps25
  go_wp2
  go_loop [1, 5] (fun u v => ∃ k : Nat, k ≤ n ∧ u = .int .i64 (k0 + k) ∧ v = .int .i64 k) (fun _ v => n - (intOf v).toNat)
  case atStart => exact ⟨0, Nat.zero_le _, by simp, rfl⟩
  case round =>
    obtain ⟨k, hk, rfl, rfl⟩ := hrel
    by_cases hlt : k < n
    · obtain ⟨g, o, rfl, hcell⟩ := h.at k hlt
      have hx := HU.out k (by have := h.len; omega)
      rw [hx] at hcell
      clear hx
      have hb : ((k0 + (k : Int) != k0 + (k : Int)) : Bool) = false := by simp
      go_wp2
      go_round
      case rel => exact ⟨k + 1, by omega, v_int (by omega), by go_num⟩
      case measure => simp [intOf]; omega
    · obtain rfl : k = n := by omega
      go_wp2
      go_ret
      exact ⟨rfl, 0, rfl⟩
end Go.Proofs.Ytlmdckcohoddnaa
namespace Go.Proofs.Ytlmdckcohoddnaa
open Go.RowKit
end Go.Proofs.Ytlmdckcohoddnaa
namespace Go.Proofs.Ytlmdckcohoddnaa
open Go.RowKit
def elB (p a : Int) : Bool := isPr p && decide (0 ≤ a ∧ a ≤ p - 1)
def elsB (p : Int) (l : List Int) : Bool := isPr p && allB l 0 (p - 1)
theorem elsB_two (p a b : Int) : elsB p [a, b] = (elB p a && elB p b) := by
  unfold elsB elB allB; cases isPr p <;> simp
set_option maxHeartbeats 400000 in
theorem isElement_any (p a : Int) (w : World) :
    Calls Try.prog 12 #[.int .i64 p, .int .i64 a] w fun e w' => e = .returned (.bool (elB p a)) ∧ ∃ m, w' = w.drewN m := by
  unfold elB
  cases hp : isPr p
  · simp only [Bool.false_and]
    go_enter Try.func12, Try.ntmps12
    go_wp2_with (first | (go_at_call 34; refine (IsPrime_any _ _).mono ?_; rintro e w' ⟨rfl, m, rfl⟩))
    go_ret
    exact ⟨rfl, _, rfl⟩
  · obtain ⟨r1, r2⟩ := isPr_range hp
    simp only [Bool.true_and]
    by_cases h1 : 0 ≤ a
    · by_cases h2 : a ≤ p - 1
      · rw [decide_eq_true ⟨h1, h2⟩]
        go_enter Try.func12, Try.ntmps12
        go_wp2_with (first | (go_at_call 34; refine (IsPrime_any _ _).mono ?_; rintro e w' ⟨rfl, m, rfl⟩) | go_in)
        go_ret
        exact ⟨rfl, _, rfl⟩
      · rw [decide_eq_false (by omega)]
        have hb : decide (a ≤ p - 1) = false := by simp; omega
        go_enter Try.func12, Try.ntmps12
        go_wp2_with (first | (go_at_call 34; refine (IsPrime_any _ _).mono ?_; rintro e w' ⟨rfl, m, rfl⟩) | go_in)
        go_ret
        exact ⟨rfl, _, rfl⟩
    · rw [decide_eq_false (by omega)]
      go_enter Try.func12, Try.ntmps12
      go_wp2_with (first | (go_at_call 34; refine (IsPrime_any _ _).mono ?_; rintro e w' ⟨rfl, m, rfl⟩) | go_in)
      go_ret
      exact ⟨rfl, _, rfl⟩
set_option maxHeartbeats 400000 in
theorem fpIn_any (p : Int) (a : Option Addr) (n c : Nat) (l : List Int) (w : World) (h : Ints w a n c l) :
    Calls Try.prog 10 #[.int .i64 p, .slice a n c] w fun e w' => e = .returned (.bool (elsB p l)) ∧ ∃ m, w' = w.drewN m := by
  unfold elsB
  cases hp : isPr p
  · simp only [Bool.false_and]
    go_enter Try.func10, Try.ntmps10
    go_wp2_with (first | (go_at_call 28; refine (fpGood_any _ _).mono ?_; rintro e w' ⟨rfl, m, rfl⟩))
    go_ret
    exact ⟨rfl, _, rfl⟩
  · obtain ⟨r1, r2⟩ := isPr_range hp
    simp only [Bool.true_and]
    go_enter Try.func10, Try.ntmps10
    go_wp2_with (first | (go_at_call 28; refine (fpGood_any _ _).mono ?_; rintro e w' ⟨rfl, m, rfl⟩) | (go_at_call 29; refine (l1All_any _ _ _ l _ _ _ (by exact h.drewN _)).mono ?_; rintro e w' ⟨rfl, m, rfl⟩))
    go_ret
    exact ⟨rfl, _, rfl⟩
end Go.Proofs.Ytlmdckcohoddnaa
namespace Go.Proofs.Ytlmdckcohoddnaa
open Go.RowKit
theorem keepC {w w' : World} {p : Addr} {v : Value} (u : Below w.heap.size w w') (h : w.cell? p = some v) : w'.cell? p = some v := by
  rw [u.cell (World.block_lt_of_cell? w _ h)]; exact h
theorem keepA {w : World} {p : Addr} {v : Value} (ob : Obj) (h : w.cell? p = some v) : (w.alloc ob).cell? p = some v := keepC ((Below.refl _ _).alloc (Nat.le_refl _) ob) h
end Go.Proofs.Ytlmdckcohoddnaa
namespace Go.Proofs.Ytlmdckcohoddnaa
open Go.RowKit
/-- The blocks of a row that has room. -/
def foot (a : Option Addr) (c : Nat) : List Nat := (rowOf a c).toList
/-- Outside the blocks F all stays. -/
structure Only (F : List Nat) (w w' : World) : Prop where
  os : w'.os = w.os
  tape : w'.tape = w.tape
  output : w'.output = w.output
  size : w.heap.size ≤ w'.heap.size
  block : ∀ k, k < w.heap.size → k ∉ F → w'.heap[k]? = w.heap[k]?
theorem Only.refl (F : List Nat) (w : World) : Only F w w := ⟨rfl, rfl, rfl, Nat.le_refl _, fun _ _ _ => rfl⟩
theorem Only.trans {F w w1 w2} (h : Only F w w1) (k : Only F w1 w2) : Only F w w2 :=
  ⟨k.os.trans h.os, k.tape.trans h.tape, k.output.trans h.output, Nat.le_trans h.size k.size, fun i hi hn => (k.block i (Nat.lt_of_lt_of_le hi h.size) hn).trans (h.block i hi hn)⟩
theorem Only.more {F F' w w'} (h : Only F w w') (hs : ∀ k ∈ F, k ∈ F') : Only F' w w' :=
  ⟨h.os, h.tape, h.output, h.size, fun i hi hn => h.block i hi (fun hm => hn (hs i hm))⟩
theorem Only.of_grown {w w' : World} {a : Option Addr} {c : Nat} (h : w.grownBy w' (rowOf a c)) : Only (foot a c) w w' :=
  ⟨h.os, h.tape, h.output, h.size, fun i hi hn => h.block i hi (fun e => hn (by unfold foot; rw [← e]; simp))⟩
theorem Only.of_below {F : List Nat} {w w' : World} (h : Below w.heap.size w w') : Only F w w' :=
  ⟨h.os, h.tape, h.output, h.size, fun i hi _ => h.block i hi⟩
theorem Only.below {F : List Nat} {w w' : World} {B : Nat} (h : Only F w w') (hB : B ≤ w.heap.size) (hF : ∀ k ∈ F, B ≤ k) : Below B w w' :=
  ⟨h.os, h.tape, h.output, h.size, fun i hi => h.block i (by omega) (fun hm => by have := hF i hm; omega)⟩
theorem Only.right {F G w w'} (h : Only G w w') : Only (F ++ G) w w' := h.more fun _ hk => List.mem_append_right _ hk
theorem mem_foot {a : Option Addr} {c k : Nat} (h : k ∈ foot a c) : ∃ x, a = some x ∧ 0 < c ∧ k = x.block := by
  unfold foot rowOf at h
  split at h
  · simp at h
  · cases a with
    | none => simp at h
    | some x => simp at h; exact ⟨x, rfl, by omega, h⟩
theorem foot_mem {x : Addr} {c : Nat} (h : 0 < c) : x.block ∈ foot (some x) c := by
  unfold foot rowOf
  rw [if_neg (by omega)]
  simp
theorem OwnC.feet {w b a n c e sz xs} (h : OwnC w b a n c e sz xs) : ∀ k ∈ foot a c, b ≤ k ∧ k < w.heap.size := fun k hk => by
  obtain ⟨x, hx, hc, rfl⟩ := mem_foot hk
  exact h.range x hc hx
theorem OwnC.only {F : List Nat} {w w' : World} {b a n c e sz xs} (h : OwnC w b a n c e sz xs) (ho : Only F w w') (hd : ∀ k ∈ foot a c, k ∉ F) : OwnC w' b a n c e sz xs :=
  ⟨h.1, h.2.1, h.2.2.1, h.2.2.2.1, fun hc => by
    obtain ⟨g, cur, h1, h2, h3, h4⟩ := h.2.2.2.2 hc
    exact ⟨g, cur, h1, h2, by rw [ho.block g (Array.getElem?_eq_some_iff.1 h3).1 (hd g (by rw [h1]; exact foot_mem hc))]; exact h3, h4⟩⟩
/-- No block of the one is a block of the other. -/
def Disj (F G : List Nat) : Prop := ∀ k ∈ F, k ∉ G
theorem Disj.symm {F G} (h : Disj F G) : Disj G F := fun k hk hf => h k hf hk
theorem Apart.disj {a c a' c'} (h : Apart a c a' c') : Disj (foot a c) (foot a' c') := fun k hk hk' => by
  obtain ⟨x, hx, hc, rfl⟩ := mem_foot hk
  obtain ⟨y, hy, hc', e⟩ := mem_foot hk'
  exact h x y hc hc' hx hy e
theorem Disj.app {F G G'} (h : Disj F G) (h' : Disj F G') : Disj F (G ++ G') := fun k hk hm => by
  rcases List.mem_append.1 hm with hm | hm
  · exact h k hk hm
  · exact h' k hk hm
theorem Disj.nil_l (F : List Nat) : Disj [] F := fun _ hk => by cases hk
theorem Disj.nil_r (F : List Nat) : Disj F [] := fun _ _ hk => by cases hk
/-- The slice (a, n, c) of structs of k ints reads as the numbers l, one struct behind the other. -/
def Flat (k : Nat) (w : World) (a : Option Addr) (n c : Nat) (l : List Int) : Prop := RowC w a n c k (l.map (Value.int .i64))
/-- It is the call's own (e: the type of its elements), in blocks from b on. -/
def OwnF (k e : Nat) (w : World) (b : Nat) (a : Option Addr) (n c : Nat) (l : List Int) : Prop := OwnC w b a n c e k (l.map (Value.int .i64))
theorem Flat.len {k w a n c l} (h : Flat k w a n c l) : l.length = n * k := by have := h.1; simpa using this
theorem Flat.cap {k w a n c l} (h : Flat k w a n c l) : n ≤ c ∧ c ≤ maxLen := ⟨h.2.1, h.2.2.1⟩
theorem Flat.le {k w a n c l} (h : Flat k w a n c l) : (n : Int) ≤ 9223372036854775807 := by
  have := h.2.1; have := h.2.2.1; unfold maxLen at this; omega
theorem Flat.below {k w w' a n c l} (h : Flat k w a n c l) (hb : Below w.heap.size w w') : Flat k w' a n c l := RowC.below h hb
theorem Flat.alloc {k w a n c l} (h : Flat k w a n c l) (o : Obj) : Flat k (w.alloc o) a n c l := h.below ((Below.refl _ _).alloc (Nat.le_refl _) _)
theorem Flat.drewN {k w a n c l} (h : Flat k w a n c l) (m : Nat) : Flat k (w.drewN m) a n c l := h.below (below_of_drewN m)
theorem Flat.drew {k w a n c l} (h : Flat k w a n c l) : Flat k w.drew a n c l := h.below ((Below.refl _ _).drew)
theorem Flat.at {k w a n c l} (h : Flat k w a n c l) (hn : 0 < n) : ∃ g o, a = some ⟨g, o, none⟩ ∧ ∀ j, j < n * k → w.cell? ⟨g, o + j, none⟩ = some (.int .i64 (l.getD j 0)) := by
  have hl := h.len
  obtain ⟨_, _, _, _, g, o, h1, h2⟩ := h
  exact ⟨g, o, h1 hn, fun j hj => h2 j _ (by simp [List.getD, show j < l.length by omega])⟩
theorem OwnF.flat {k e w b a n c l} (h : OwnF k e w b a n c l) : Flat k w a n c l := h.row
theorem OwnF.len {k e w b a n c l} (h : OwnF k e w b a n c l) : l.length = n * k := h.flat.len
theorem OwnF.cap {k e w b a n c l} (h : OwnF k e w b a n c l) : n ≤ c ∧ c ≤ maxLen := h.flat.cap
theorem OwnF.below {k e w w' b a n c l} (h : OwnF k e w b a n c l) (hb : Below w.heap.size w w') : OwnF k e w' b a n c l := OwnC.below h hb
theorem OwnF.lower {k e w b b' a n c l} (h : OwnF k e w b a n c l) (hb : b' ≤ b) : OwnF k e w b' a n c l := OwnC.lower h hb
theorem OwnF.alloc {k e w b a n c l} (h : OwnF k e w b a n c l) (o : Obj) : OwnF k e (w.alloc o) b a n c l := h.below ((Below.refl _ _).alloc (Nat.le_refl _) _)
theorem OwnF.drew {k e w b a n c l} (h : OwnF k e w b a n c l) : OwnF k e w.drew b a n c l := h.below ((Below.refl _ _).drew)
theorem OwnF.drewN {k e w b a n c l} (h : OwnF k e w b a n c l) (m : Nat) : OwnF k e (w.drewN m) b a n c l := h.below (below_of_drewN m)
theorem OwnF.feet {k e w b a n c l} (h : OwnF k e w b a n c l) : ∀ k ∈ foot a c, b ≤ k ∧ k < w.heap.size := OwnC.feet h
theorem OwnF.only {F : List Nat} {k e : Nat} {w w' : World} {b a n c l} (h : OwnF k e w b a n c l) (ho : Only F w w') (hd : Disj (foot a c) F) : OwnF k e w' b a n c l := OwnC.only h ho hd
theorem Own.feet {w b a n c l} (h : Own w b a n c l) : ∀ k ∈ foot a c, b ≤ k ∧ k < w.heap.size := OwnC.feet h
theorem Own.only {F : List Nat} {w w' : World} {b a n c l} (h : Own w b a n c l) (ho : Only F w w') (hd : Disj (foot a c) F) : Own w' b a n c l := OwnC.only h ho hd
/-- A store into such a row: its cell j. -/
theorem OwnF.at {k e w b a n c l} (h : OwnF k e w b a n c l) (j : Nat) (hj : j < n * k) : ∃ g, a = some ⟨g, 0, none⟩ ∧ b ≤ g ∧ g < w.heap.size ∧ w.cell? ⟨g, j, none⟩ = some (.int .i64 (l.getD j 0)) ∧ w.frozen? ⟨g, j, none⟩ = false ∧
    ∀ x, OwnF k e (w.setCell ⟨g, j, none⟩ (.int .i64 x)) b (some ⟨g, 0, none⟩) n c (l.set j x) := by
  obtain ⟨g, rfl, hb, hg, ⟨u, hu, hc⟩, hf, hs⟩ := OwnC.atC h j hj
  have hl : j < l.length := by rw [h.len]; exact hj
  refine ⟨g, rfl, hb, hg, ?_, hf, fun x => by unfold OwnF; rw [List.map_set]; exact hs _⟩
  rw [hc, ← hu]
  simp [List.getD, hl]
theorem OwnF.cf {k e w b g n c l} (h : OwnF k e w b (some ⟨g, 0, none⟩) n c l) (j : Nat) (hj : j < n * k) : w.cell? ⟨g, j, none⟩ = some (.int .i64 (l.getD j 0)) ∧ w.frozen? ⟨g, j, none⟩ = false := by
  obtain ⟨_, E, _, _, h1, h2, _⟩ := h.at j hj
  cases E
  exact ⟨h1, h2⟩
theorem OwnF.put {k e w b g n c l} (h : OwnF k e w b (some ⟨g, 0, none⟩) n c l) (j : Nat) (hj : j < n * k) (x : Int) : OwnF k e (w.setCell ⟨g, j, none⟩ (.int .i64 x)) b (some ⟨g, 0, none⟩) n c (l.set j x) := by
  obtain ⟨_, E, _, _, _, _, h3⟩ := h.at j hj
  cases E
  exact h3 x
theorem Only.setCell {F : List Nat} {w w' : World} (h : Only F w w') (p : Addr) (u : Value) (hp : p.block ∈ F) : Only F w (w'.setCell p u) :=
  ⟨h.os, h.tape, h.output, by have := h.size; simpa [World.setCell] using this, fun k hk hne => by
    rw [Below.heap_setCell _ _ _ _ (by intro e; subst e; exact hne hp)]; exact h.block k hk hne⟩
theorem Only.alloc {F : List Nat} {w w' : World} (h : Only F w w') (o : Obj) : Only F w (w'.alloc o) :=
  h.trans (Only.of_below ((Below.refl _ _).alloc (Nat.le_refl _) _))
theorem Only.drew {F : List Nat} {w w' : World} (h : Only F w w') : Only F w w'.drew :=
  h.trans (Only.of_below ((Below.refl _ _).drew))
/-- A block that is known whole. -/
def Blk (w : World) (g : Nat) (t : TypeId) (cs : Array Value) : Prop := w.heap[g]? = some (.cells cs t (0, 0))
theorem Blk.lt {w g t cs} (h : Blk w g t cs) : g < w.heap.size := by
  rcases Nat.lt_or_ge g w.heap.size with hlt | hge
  · exact hlt
  · unfold Blk at h; rw [Array.getElem?_eq_none hge] at h; cases h
theorem Blk.cell {w g t cs} (h : Blk w g t cs) (i : Nat) : w.cell? ⟨g, i, none⟩ = cs[i]? := cell_of_row w g i cs t (0, 0) h
theorem Blk.frozen {w g t cs} (h : Blk w g t cs) (i : Nat) : w.frozen? ⟨g, i, none⟩ = false := by
  unfold Blk at h
  simp [World.frozen?, h]
theorem Blk.new (w : World) (t : TypeId) (cs : Array Value) : Blk (w.alloc (.cells cs t)) w.heap.size t cs := heap_alloc_new w _
theorem Blk.below {w w' g t cs} (h : Blk w g t cs) (hb : Below w.heap.size w w') : Blk w' g t cs := (hb.block g h.lt).trans h
theorem Blk.alloc {w g t cs} (h : Blk w g t cs) (o : Obj) : Blk (w.alloc o) g t cs := (Below.heap_alloc w o g h.lt).trans h
theorem Blk.drew {w g t cs} (h : Blk w g t cs) : Blk w.drew g t cs := h
theorem Blk.only {F : List Nat} {w w' g t cs} (h : Blk w g t cs) (ho : Only F w w') (hg : g ∉ F) : Blk w' g t cs := (ho.block g h.lt hg).trans h
theorem Blk.set_ {w g t cs} (h : Blk w g t cs) (i : Nat) (u : Value) : Blk (w.setCell ⟨g, i, none⟩ u) g t (cs.setIfInBounds i u) := by
  unfold Blk at h ⊢
  simp [World.setCell, Array.getElem?_modify, h]
-- blk<
theorem Blk.new_ (w : World) {b : Nat} (hb : w.heap.size = b) (t : TypeId) (c : Array Value) : ∃ N, w.alloc (.cells c t) = N ∧ Blk N b t c ∧ N.heap.size = b + 1 ∧ Below w.heap.size w N :=
  ⟨_, rfl, hb ▸ Blk.new w t c, by simp [hb], (Below.refl _ _).alloc (Nat.le_refl _) _⟩
theorem Blk.all11 {w g t} {c0 c1 c2 c3 c4 c5 c6 c7 c8 c9 c10 : Value} (h : Blk w g t #[c0, c1, c2, c3, c4, c5, c6, c7, c8, c9, c10]) : w.cell? ⟨g, 0, none⟩ = some c0 ∧ w.cell? ⟨g, 1, none⟩ = some c1 ∧ w.cell? ⟨g, 2, none⟩ = some c2 ∧ w.cell? ⟨g, 3, none⟩ = some c3 ∧ w.cell? ⟨g, 4, none⟩ = some c4 ∧ w.cell? ⟨g, 5, none⟩ = some c5 ∧ w.cell? ⟨g, 6, none⟩ = some c6 ∧ w.cell? ⟨g, 7, none⟩ = some c7 ∧ w.cell? ⟨g, 8, none⟩ = some c8 ∧ w.cell? ⟨g, 9, none⟩ = some c9 ∧ w.cell? ⟨g, 10, none⟩ = some c10 :=
  ⟨h.cell 0, h.cell 1, h.cell 2, h.cell 3, h.cell 4, h.cell 5, h.cell 6, h.cell 7, h.cell 8, h.cell 9, h.cell 10⟩
theorem Blk.frz11 {w g t} {c0 c1 c2 c3 c4 c5 c6 c7 c8 c9 c10 : Value} (h : Blk w g t #[c0, c1, c2, c3, c4, c5, c6, c7, c8, c9, c10]) : w.frozen? ⟨g, 0, none⟩ = false ∧ w.frozen? ⟨g, 1, none⟩ = false ∧ w.frozen? ⟨g, 2, none⟩ = false ∧ w.frozen? ⟨g, 3, none⟩ = false ∧ w.frozen? ⟨g, 4, none⟩ = false ∧ w.frozen? ⟨g, 5, none⟩ = false ∧ w.frozen? ⟨g, 6, none⟩ = false ∧ w.frozen? ⟨g, 7, none⟩ = false ∧ w.frozen? ⟨g, 8, none⟩ = false ∧ w.frozen? ⟨g, 9, none⟩ = false ∧ w.frozen? ⟨g, 10, none⟩ = false :=
  ⟨h.frozen 0, h.frozen 1, h.frozen 2, h.frozen 3, h.frozen 4, h.frozen 5, h.frozen 6, h.frozen 7, h.frozen 8, h.frozen 9, h.frozen 10⟩
theorem Blk.row11 {w g t} {c0 c1 c2 c3 c4 c5 c6 c7 c8 c9 c10 : Value} (h : Blk w g t #[c0, c1, c2, c3, c4, c5, c6, c7, c8, c9, c10]) (v0 v1 v2 v3 v4 v5 v6 v7 v8 v9 v10 : Value) : ∃ N, (((((((((((w.setCell ⟨g, 0, none⟩ v0).setCell ⟨g, 1, none⟩ v1).setCell ⟨g, 2, none⟩ v2).setCell ⟨g, 3, none⟩ v3).setCell ⟨g, 4, none⟩ v4).setCell ⟨g, 5, none⟩ v5).setCell ⟨g, 6, none⟩ v6).setCell ⟨g, 7, none⟩ v7).setCell ⟨g, 8, none⟩ v8).setCell ⟨g, 9, none⟩ v9).setCell ⟨g, 10, none⟩ v10) = N ∧ Blk N g t #[v0, v1, v2, v3, v4, v5, v6, v7, v8, v9, v10] ∧ Only [g] w N := by
  have g0 : Only [g] w (w.setCell ⟨g, 0, none⟩ v0) := (Only.refl _ _).setCell _ _ (by simp)
  replace h := h.set_ 0 v0
  generalize w.setCell ⟨g, 0, none⟩ v0 = w0 at *
  have g1 : Only [g] w0 (w0.setCell ⟨g, 1, none⟩ v1) := (Only.refl _ _).setCell _ _ (by simp)
  replace h := h.set_ 1 v1
  generalize w0.setCell ⟨g, 1, none⟩ v1 = w1 at *
  replace g0 := g0.trans g1
  have g2 : Only [g] w1 (w1.setCell ⟨g, 2, none⟩ v2) := (Only.refl _ _).setCell _ _ (by simp)
  replace h := h.set_ 2 v2
  generalize w1.setCell ⟨g, 2, none⟩ v2 = w2 at *
  replace g0 := g0.trans g2
  have g3 : Only [g] w2 (w2.setCell ⟨g, 3, none⟩ v3) := (Only.refl _ _).setCell _ _ (by simp)
  replace h := h.set_ 3 v3
  generalize w2.setCell ⟨g, 3, none⟩ v3 = w3 at *
  replace g0 := g0.trans g3
  have g4 : Only [g] w3 (w3.setCell ⟨g, 4, none⟩ v4) := (Only.refl _ _).setCell _ _ (by simp)
  replace h := h.set_ 4 v4
  generalize w3.setCell ⟨g, 4, none⟩ v4 = w4 at *
  replace g0 := g0.trans g4
  have g5 : Only [g] w4 (w4.setCell ⟨g, 5, none⟩ v5) := (Only.refl _ _).setCell _ _ (by simp)
  replace h := h.set_ 5 v5
  generalize w4.setCell ⟨g, 5, none⟩ v5 = w5 at *
  replace g0 := g0.trans g5
  have g6 : Only [g] w5 (w5.setCell ⟨g, 6, none⟩ v6) := (Only.refl _ _).setCell _ _ (by simp)
  replace h := h.set_ 6 v6
  generalize w5.setCell ⟨g, 6, none⟩ v6 = w6 at *
  replace g0 := g0.trans g6
  have g7 : Only [g] w6 (w6.setCell ⟨g, 7, none⟩ v7) := (Only.refl _ _).setCell _ _ (by simp)
  replace h := h.set_ 7 v7
  generalize w6.setCell ⟨g, 7, none⟩ v7 = w7 at *
  replace g0 := g0.trans g7
  have g8 : Only [g] w7 (w7.setCell ⟨g, 8, none⟩ v8) := (Only.refl _ _).setCell _ _ (by simp)
  replace h := h.set_ 8 v8
  generalize w7.setCell ⟨g, 8, none⟩ v8 = w8 at *
  replace g0 := g0.trans g8
  have g9 : Only [g] w8 (w8.setCell ⟨g, 9, none⟩ v9) := (Only.refl _ _).setCell _ _ (by simp)
  replace h := h.set_ 9 v9
  generalize w8.setCell ⟨g, 9, none⟩ v9 = w9 at *
  replace g0 := g0.trans g9
  have g10 : Only [g] w9 (w9.setCell ⟨g, 10, none⟩ v10) := (Only.refl _ _).setCell _ _ (by simp)
  replace h := h.set_ 10 v10
  generalize w9.setCell ⟨g, 10, none⟩ v10 = w10 at *
  replace g0 := g0.trans g10
  simp only [List.setIfInBounds_toArray, List.set_cons_zero, List.set_cons_succ] at h
  exact ⟨_, rfl, h, g0⟩
theorem tk {P : Program} {ops : Array Oper} {Q : Exit → Act → World → Prop} {md : Region.Mode} {S : World → Prop} {i : Nat} {oi : Oper} {v : Value} {fuel : Nat} {listed : Array Bool} {a : Act} {w : World} (hS : S w) (hi : ops[i]? = some oi)
    (hy : ∀ w, S w → (execOp a.eval oi).run P w = .ok (.value v) w) (h : wpAnyH P md ops Q S fuel (listed.setIfInBounds i true) (a.put oi.dst v) w)
    (hw : Region.wanted oi (yielded ops a.tmps) = true := by rfl) (hs : Region.noSelect ops = true := by kernel_rfl) (hf : Region.free md ops listed i = true := by kernel_rfl) (hr : (Region.ready md ops listed).contains i = true := by kernel_rfl)
    (hQ : ∀ c a w, Q (.panic c) (a.put oi.dst v) w → Q (.panic c) a w := by exact fun _ _ _ h => h) : wpAnyH P md ops Q S (fuel + 1) listed a w :=
  wpAnyH_take hi hs hf hr hQ (Or.inl ⟨hw, hy⟩) hS h
theorem pt_ : (∀ (t : Array Value) (s : List Deferred) (d : Tmp) (v : Value), Act.put ⟨t, s⟩ (some d) v = ⟨t.setIfInBounds d v, s⟩) ∧ (∀ (t : Array Value) (s : List Deferred) (v : Value), Act.put ⟨t, s⟩ none v = ⟨t, s⟩) ∧
    (∀ (l : List Value) (i : Nat) (v : Value), l.toArray.setIfInBounds i v = (l.set i v).toArray) ∧ (∀ (l : List Bool) (i : Nat) (v : Bool), l.toArray.setIfInBounds i v = (l.set i v).toArray) ∧
    (∀ (x : Value) (l : List Value) (v : Value), (x :: l).set 0 v = v :: l) ∧ (∀ (x : Value) (l : List Value) (i : Nat) (v : Value), (x :: l).set (i + 1) v = x :: l.set i v) ∧
    (∀ (x : Bool) (l : List Bool) (v : Bool), (x :: l).set 0 v = v :: l) ∧ (∀ (x : Bool) (l : List Bool) (i : Nat) (v : Bool), (x :: l).set (i + 1) v = x :: l.set i v) :=
  ⟨fun _ _ _ _ => rfl, fun _ _ _ => rfl, fun _ _ _ => by simp, fun _ _ _ => by simp, fun _ _ _ => rfl, fun _ _ _ _ => rfl, fun _ _ _ => rfl, fun _ _ _ _ => rfl⟩
-- blk>
theorem eqIntS_b (a : Option Addr) (n c : Nat) (a' : Option Addr) (n' c' : Nat) (l : List Int) (w : World) (h : Ints w a n c l) (h' : Ints w a' n' c' l) :
    Calls Try.prog 19 #[.slice a n c, .slice a' n' c'] w fun e w' => e = .returned (.bool true) ∧ Below w.heap.size w w' :=
  (eqIntS_same a n c a' n' c' l w h h').mono fun _ _ ⟨he, hq⟩ => ⟨he, below_of_quiet hq⟩
theorem markIntS_o (a : Option Addr) (n c b : Nat) (l : List Int) (k0 : Int) (w : World) (h : Own w b a n c l) (h0 : 0 ≤ k0) (h1 : k0 + n ≤ 4000000000000000000) :
    Calls Try.prog 22 #[.slice a n c, .int .i64 k0] w fun e w' => e = .returned (.int .i64 (k0 + n)) ∧ (∃ l', Own w' b a n c l' ∧ UpFrom k0 l') ∧ Only (foot a c) w w' :=
  (markIntS_any a n c b l k0 w h h0 h1).mono fun _ _ ⟨he, hl, hg⟩ => ⟨he, hl, Only.of_grown hg⟩
theorem heldIntS_b (a : Option Addr) (n c : Nat) (l : List Int) (k0 : Int) (w : World) (h : Ints w a n c l) (hu : UpFrom k0 l) (h0 : 0 ≤ k0) (h1 : k0 + n ≤ 4000000000000000000) :
    Calls Try.prog 25 #[.slice a n c, .int .i64 k0] w fun e w' => e = .returned (.int .i64 (k0 + n)) ∧ Below w.heap.size w w' :=
  (heldIntS_any a n c l k0 w h hu h0 h1).mono fun _ _ ⟨he, hq⟩ => ⟨he, below_of_quiet hq⟩
end Go.Proofs.Ytlmdckcohoddnaa
