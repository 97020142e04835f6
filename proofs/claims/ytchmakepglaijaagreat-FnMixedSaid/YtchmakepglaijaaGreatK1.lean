/- Lemmas and walks that the claim's proof rests on, part 1. -/
import Derived.Test.YtchmakepglaijaaGreatRows
import Derived.WalkKit
import Derived.WalkSpells
import Derived.WalkLawsBesides
import Derived.Handy
import Derived.Lib.Hide
import Derived.Deep.QuietTactic
import Derived.BigQuiet
import Derived.Deep.RegionWith
import Derived.StillTailTactics
import Derived.Deep.RegionHeld3
import Derived.OpenShut
import Derived.ArgAppend
namespace Go.Proofs.YtchmakepglaijaaGreat
open Go.RowKit
theorem ret_int {k : IntKind} {a b : Int} (h : a = b) : Ending.returned (.int k a) = .returned (.int k b) := by rw [h]
theorem ret_bool {a b : Bool} (h : a = b) : Ending.returned (.bool a) = .returned (.bool b) := by rw [h]
theorem v_int {k : IntKind} {a b : Int} (h : a = b) : Value.int k a = .int k b := by rw [h]
theorem ret_slice {a : Option Addr} {n m c : Nat} (h : n = m) : Ending.returned (.slice a n c) = .returned (.slice a m c) := by rw [h]
end Go.Proofs.YtchmakepglaijaaGreat
namespace Go.Proofs.YtchmakepglaijaaGreat
open Go.RowKit
theorem mod_core (p n : Int) (h1 : 1 ≤ p) : (n.tmod p + p) % p = n % p := by
  have a1 := Int.emod_nonneg n (by omega : p ≠ 0)
  have a2 := Int.emod_lt_of_pos n (by omega : 0 < p)
  rw [Int.tmod_eq_emod (a := n)]
  split
  · simp
  · rw [show n % p - (p.natAbs : Int) + p = n % p from by omega, Int.emod_emod]
def inB (n lo hi : Int) : Bool := decide (lo ≤ n ∧ n ≤ hi)
theorem inB_yes {n lo hi : Int} (h1 : lo ≤ n) (h2 : n ≤ hi) : inB n lo hi = true := decide_eq_true ⟨h1, h2⟩
theorem inB_true {n lo hi : Int} (h : inB n lo hi = true) : lo ≤ n ∧ n ≤ hi := of_decide_eq_true h
set_option maxHeartbeats 400000 in
theorem within_any (n lo hi : Int) (w : World) :
    Calls Tryz.prog 62 #[.int .i64 n, .int .i64 lo, .int .i64 hi] w fun e w' => e = .returned (.bool (inB n lo hi)) ∧ w = w' := by
  by_cases h1 : lo ≤ n
  · have b1 : decide (lo ≤ n) = true := decide_eq_true h1
    go_enter Tryz.func62, Tryz.ntmps62
    go_wp2
    go_ret
    exact ⟨ret_bool (by unfold inB; simp [h1]), rfl⟩
  · have b1 : decide (lo ≤ n) = false := decide_eq_false h1
    go_enter Tryz.func62, Tryz.ntmps62
    go_wp2
    go_ret
    exact ⟨ret_bool (decide_eq_false (by omega)).symm, rfl⟩
set_option maxHeartbeats 400000 in
theorem l1In_any (n lo hi : Int) (w : World) :
    Calls Tryz.prog 76 #[.int .i64 n, .int .i64 lo, .int .i64 hi] w fun e w' => e = .returned (.bool (inB n lo hi)) ∧ w = w' := by
  by_cases h1 : lo ≤ n
  · have b1 : decide (lo ≤ n) = true := decide_eq_true h1
    go_enter Tryz.func76, Tryz.ntmps76
    go_wp2
    go_ret
    exact ⟨ret_bool (by unfold inB; simp [h1]), rfl⟩
  · have b1 : decide (lo ≤ n) = false := decide_eq_false h1
    go_enter Tryz.func76, Tryz.ntmps76
    go_wp2
    go_ret
    exact ⟨ret_bool (decide_eq_false (by omega)).symm, rfl⟩
set_option maxHeartbeats 400000 in
theorem mod_same (p n : Int) (w : World) (h1 : 1 ≤ p) (h2 : p ≤ 1000000000) :
    Calls Tryz.prog 41 #[.int .i64 p, .int .i64 n] w fun e w' => e = .returned (.int .i64 (n % p)) ∧ w' = w := by
  have b1 := Int.tmod_lt_of_pos n (by omega : 0 < p)
  have b2 := Int.lt_tmod_of_pos n (by omega : 0 < p)
  have E2 := Lib.hid (mod_core p n h1)
  go_enter Tryz.func41, Tryz.ntmps41
  go_wp2
  go_ret
  exact ⟨ret_int (by exact E2.out), rfl⟩
def isPr (p : Int) : Bool := decide (2 ≤ p ∧ p ≤ 251 ∧ ∀ d : Nat, d < 16 → 2 ≤ d → (d : Int) * d ≤ p → p % d ≠ 0)
theorem isPr_range {p : Int} (h : isPr p = true) : 2 ≤ p ∧ p ≤ 251 := by
  unfold isPr at h; simp only [decide_eq_true_eq] at h; exact ⟨h.1, h.2.1⟩
theorem isPr_no {p : Int} (h : ¬ (2 ≤ p ∧ p ≤ 251)) : isPr p = false := by
  unfold isPr; simp only [decide_eq_false_iff_not]; exact fun k => h ⟨k.1, k.2.1⟩
theorem isPr_hit {p : Int} (d : Nat) (h1 : d < 16) (h2 : 2 ≤ d) (h3 : (d : Int) * d ≤ p) (h4 : p % d = 0) : isPr p = false := by
  unfold isPr; simp only [decide_eq_false_iff_not]; exact fun k => k.2.2 d h1 h2 h3 h4
theorem isPr_yes {p : Int} (h1 : 2 ≤ p) (h2 : p ≤ 251) (h : ∀ d : Nat, d < 16 → 2 ≤ d → (d : Int) * d ≤ p → p % d ≠ 0) : isPr p = true := by
  unfold isPr; simp only [decide_eq_true_eq]; exact ⟨h1, h2, h⟩
set_option maxHeartbeats 400000 in
theorem IsPrime_any (p : Int) (w : World) :
    Calls Tryz.prog 36 #[.int .i64 p] w fun e w' => e = .returned (.bool (isPr p)) ∧ ∃ m, w' = w.drewN m := by
  by_cases h1 : 2 ≤ p
  · by_cases h2 : p ≤ 251
    · go_enter Tryz.func36, Tryz.ntmps36
      go_wp2
      go_loop [3] (fun v => ∃ d : Nat, 2 ≤ d ∧ d ≤ 16 ∧ (∀ e : Nat, e < d → 2 ≤ e → (e : Int) * e ≤ p → p % e ≠ 0) ∧ v = .int .i64 d) (fun v => 20 - (intOf v).toNat)
      case atStart => exact ⟨2, by omega, by omega, fun e h h' => absurd h (by omega), rfl⟩
      case round =>
        obtain ⟨d, hd2, hd16, hd, rfl⟩ := hrel
        have HD := Lib.hid hd
        clear hd
        have hm : (d : Int) * d ≤ 256 := by
          have : d * d ≤ 16 * 16 := Nat.mul_le_mul hd16 hd16
          omega
        have hm0 : (0 : Int) ≤ (d : Int) * d := Int.mul_nonneg (by omega) (by omega)
        by_cases hlt : (d : Int) * d ≤ p
        · have hd15 : d < 16 := by
            by_cases e : d = 16
            · subst e; omega
            · omega
          by_cases hz : p % d = 0
          · have hz' : (p % (d : Int) == 0) = true := by simp [hz]
            have HR := Lib.hid (isPr_hit d hd15 hd2 hlt hz)
            clear hz
            go_wp2
            go_ret
            exact ⟨ret_bool HR.out.symm, 0, rfl⟩
          · have hz' : (p % (d : Int) == 0) = false := by simp [hz]
            have HZ := Lib.hid hz
            clear hz
            go_wp2
            go_round
            case rel =>
              refine ⟨d + 1, by omega, by omega, ?_, by go_num⟩
              intro e he h2e hee
              by_cases hed : e = d
              · subst hed; exact HZ.out
              · exact HD.out e (by omega) h2e hee
            case measure => simp [intOf]; omega
        · have HR := Lib.hid (isPr_yes h1 h2 (fun e _ h2e hee => HD.out e (by
            apply Nat.lt_of_not_le
            intro hde
            have : d * d ≤ e * e := Nat.mul_le_mul hde hde
            omega) h2e hee))
          go_wp2
          go_ret
          exact ⟨ret_bool HR.out.symm, 0, rfl⟩
    · have HR := Lib.hid (isPr_no (p := p) (by omega))
      go_enter Tryz.func36, Tryz.ntmps36
      go_wp2
      go_ret
      exact ⟨ret_bool HR.out.symm, 0, rfl⟩
  · have HR := Lib.hid (isPr_no (p := p) (by omega))
    go_enter Tryz.func36, Tryz.ntmps36
    go_wp2
    go_ret
    exact ⟨ret_bool HR.out.symm, 0, rfl⟩
set_option maxHeartbeats 400000 in
theorem fpGood_any (p : Int) (w : World) :
    Calls Tryz.prog 42 #[.int .i64 p] w fun e w' => e = .returned (.bool (isPr p)) ∧ ∃ m, w' = w.drewN m := by
  by_cases h1 : 2 ≤ p
  · by_cases h2 : p ≤ 251
    · go_enter Tryz.func42, Tryz.ntmps42
      go_wp2
      go_loop [3] (fun v => ∃ d : Nat, 2 ≤ d ∧ d ≤ 16 ∧ (∀ e : Nat, e < d → 2 ≤ e → (e : Int) * e ≤ p → p % e ≠ 0) ∧ v = .int .i64 d) (fun v => 20 - (intOf v).toNat)
      case atStart => exact ⟨2, by omega, by omega, fun e h h' => absurd h (by omega), rfl⟩
      case round =>
        obtain ⟨d, hd2, hd16, hd, rfl⟩ := hrel
        have HD := Lib.hid hd
        clear hd
        have hm : (d : Int) * d ≤ 256 := by
          have : d * d ≤ 16 * 16 := Nat.mul_le_mul hd16 hd16
          omega
        have hm0 : (0 : Int) ≤ (d : Int) * d := Int.mul_nonneg (by omega) (by omega)
        by_cases hlt : (d : Int) * d ≤ p
        · have hd15 : d < 16 := by
            by_cases e : d = 16
            · subst e; omega
            · omega
          by_cases hz : p % d = 0
          · have hz' : (p % (d : Int) == 0) = true := by simp [hz]
            have HR := Lib.hid (isPr_hit d hd15 hd2 hlt hz)
            clear hz
            go_wp2
            go_ret
            exact ⟨ret_bool HR.out.symm, 0, rfl⟩
          · have hz' : (p % (d : Int) == 0) = false := by simp [hz]
            have HZ := Lib.hid hz
            clear hz
            go_wp2
            go_round
            case rel =>
              refine ⟨d + 1, by omega, by omega, ?_, by go_num⟩
              intro e he h2e hee
              by_cases hed : e = d
              · subst hed; exact HZ.out
              · exact HD.out e (by omega) h2e hee
            case measure => simp [intOf]; omega
        · have HR := Lib.hid (isPr_yes h1 h2 (fun e _ h2e hee => HD.out e (by
            apply Nat.lt_of_not_le
            intro hde
            have : d * d ≤ e * e := Nat.mul_le_mul hde hde
            omega) h2e hee))
          go_wp2
          go_ret
          exact ⟨ret_bool HR.out.symm, 0, rfl⟩
    · have HR := Lib.hid (isPr_no (p := p) (by omega))
      go_enter Tryz.func42, Tryz.ntmps42
      go_wp2
      go_ret
      exact ⟨ret_bool HR.out.symm, 0, rfl⟩
  · have HR := Lib.hid (isPr_no (p := p) (by omega))
    go_enter Tryz.func42, Tryz.ntmps42
    go_wp2
    go_ret
    exact ⟨ret_bool HR.out.symm, 0, rfl⟩
end Go.Proofs.YtchmakepglaijaaGreat
namespace Go.Proofs.YtchmakepglaijaaGreat
open Go.RowKit
def Ints (w : World) (a : Option Addr) (n c : Nat) (l : List Int) : Prop :=
  n = l.length ∧ n ≤ c ∧ c ≤ maxLen ∧ (a = none → c = 0) ∧ ∃ g o, (0 < n → a = some ⟨g, o, none⟩) ∧ ∀ i, i < n → w.cell? ⟨g, o + i, none⟩ = some (.int .i64 (l.getD i 0))
theorem Ints.len {w a n c l} (h : Ints w a n c l) : n = l.length := h.1
theorem Ints.le {w a n c l} (h : Ints w a n c l) : (n : Int) ≤ 9223372036854775807 := by
  have := h.2.1; have := h.2.2.1; unfold maxLen at this; omega
theorem Ints.at {w a n c l} (h : Ints w a n c l) (k : Nat) (hk : k < n) : ∃ g o, a = some ⟨g, o, none⟩ ∧ w.cell? ⟨g, o + k, none⟩ = some (.int .i64 (l.getD k 0)) := by
  obtain ⟨_, _, _, _, g, o, h1, h2⟩ := h
  exact ⟨g, o, h1 (by omega), h2 k hk⟩
theorem Ints.drewN {w a n c l} (h : Ints w a n c l) (m : Nat) : Ints (w.drewN m) a n c l := h
theorem Ints.below {w w' a n c l} (h : Ints w a n c l) (hb : Below w.heap.size w w') : Ints w' a n c l := by
  obtain ⟨h1, h2, h3, hn, g, o, h4, h5⟩ := h
  exact ⟨h1, h2, h3, hn, g, o, h4, fun i hi => by rw [hb.cell (World.block_lt_of_cell? w _ (h5 i hi))]; exact h5 i hi⟩
theorem Ints.alloc {w a n c l} (h : Ints w a n c l) (ob : Obj) : Ints (w.alloc ob) a n c l :=
  h.below ((Below.refl _ _).alloc (Nat.le_refl _) _)
theorem cell_new (w : World) (v : Value) (t : TypeId) : (w.alloc (.cells #[v] t)).cell? ⟨w.heap.size, 0, none⟩ = some v := by
  simp
theorem below_of_drewN {w : World} (m : Nat) : Below w.heap.size w (w.drewN m) := below_drewN (Below.refl _ _) m
theorem below_of_quiet {w w' : World} (h : ∃ m, w' = w.drewN m) : Below w.heap.size w w' := by obtain ⟨m, rfl⟩ := h; exact below_of_drewN m
theorem Ints.lit (w : World) (l : List Int) (e : TypeId) (h : l.length ≤ maxLen) : Ints (w.alloc (.cells (l.map (Value.int .i64)).toArray e)) (some ⟨w.heap.size, 0, none⟩) l.length l.length l := by
  refine ⟨rfl, Nat.le_refl _, h, fun h => (by cases h), w.heap.size, 0, fun _ => rfl, fun i hi => ?_⟩
  rw [cell_of_row (w.alloc _) w.heap.size (0 + i) _ e (0, 0) (heap_alloc_new w _)]
  simp [hi]
theorem Ints.lit2 (w : World) (x y : Int) (e : TypeId) : Ints (w.alloc (.cells #[.int .i64 x, .int .i64 y] e)) (some ⟨w.heap.size, 0, none⟩) 2 2 [x, y] := Ints.lit w [x, y] e (by simp [maxLen])
theorem Ints.lit1 (w : World) (x : Int) (e : TypeId) : Ints (w.alloc (.cells #[.int .i64 x] e)) (some ⟨w.heap.size, 0, none⟩) 1 1 [x] := Ints.lit w [x] e (by simp [maxLen])
theorem Ints.nil0 (w : World) : Ints w none 0 0 [] := ⟨rfl, Nat.le_refl _, Nat.zero_le _, fun _ => rfl, 0, 0, fun h => absurd h (by omega), fun i hi => absurd hi (by omega)⟩
theorem Ints.of_row {w : World} {x : Addr} {n c : Nat} {zs : List Int} (hl : n ≤ c) (hm : c ≤ maxLen) (hz : zs.length = c) (hcell : ∀ i, i < zs.length → w.cell? (x.add i) = some (.int .i64 (zs.getD i 0))) : Ints w (some x) n c (zs.take n) := by
  by_cases h0 : 0 < zs.length
  · obtain ⟨b, off, rfl, hc⟩ := ints_at hcell h0
    refine ⟨by simp; omega, hl, hm, fun h => (by cases h), b, off, fun _ => rfl, fun i hi => ?_⟩
    rw [hc i (by omega)]
    simp [List.getD, hi]
  · exact ⟨by simp; omega, hl, hm, fun h => (by cases h), 0, 0, fun h => absurd h (by omega), fun i hi => absurd hi (by omega)⟩
def allB (l : List Int) (lo hi : Int) : Bool := l.all fun x => decide (lo ≤ x ∧ x ≤ hi)
theorem allB_iff (l : List Int) (lo hi : Int) : allB l lo hi = true ↔ ∀ x ∈ l, lo ≤ x ∧ x ≤ hi := by simp [allB]
theorem getD_mem (l : List Int) (k : Nat) (h : k < l.length) : l.getD k 0 ∈ l := by
  simp [List.getD, h]
theorem mem_getD (l : List Int) (x : Int) (h : x ∈ l) : ∃ k, k < l.length ∧ x = l.getD k 0 := by
  obtain ⟨k, hk, rfl⟩ := List.getElem_of_mem h
  exact ⟨k, hk, by simp [List.getD, hk]⟩
theorem allB_no (l : List Int) (lo hi : Int) (k : Nat) (h : k < l.length) (hx : ¬ (lo ≤ l.getD k 0 ∧ l.getD k 0 ≤ hi)) : allB l lo hi = false := by
  rw [Bool.eq_false_iff]; intro H; exact hx ((allB_iff ..).1 H _ (getD_mem l k h))
theorem allB_yes (l : List Int) (lo hi : Int) (h : ∀ j, j < l.length → lo ≤ l.getD j 0 ∧ l.getD j 0 ≤ hi) : allB l lo hi = true := by
  rw [allB_iff]; intro x hx; obtain ⟨k, hk, rfl⟩ := mem_getD l x hx; exact h k hk
set_option maxHeartbeats 400000 in
theorem l1All_any (a : Option Addr) (n c : Nat) (l : List Int) (lo hi : Int) (w : World) (h : Ints w a n c l) :
    Calls Tryz.prog 86 #[.slice a n c, .int .i64 lo, .int .i64 hi] w fun e w' => e = .returned (.bool (allB l lo hi)) ∧ ∃ m, w' = w.drewN m := by
  have hn := h.le
  go_enter Tryz.func86, Tryz.ntmps86
  go_wp2
  go_loop [11] (fun v => ∃ k : Nat, k ≤ n ∧ (∀ j, j < k → lo ≤ l.getD j 0 ∧ l.getD j 0 ≤ hi) ∧ v = .int .i64 k) (fun v => n - (intOf v).toNat)
  case atStart => exact ⟨0, Nat.zero_le _, fun j hj => absurd hj (by omega), rfl⟩
  case round =>
    obtain ⟨k, hk, hj, rfl⟩ := hrel
    have HJ := Lib.hid hj
    clear hj
    by_cases hlt : k < n
    · obtain ⟨g, o, rfl, hcell⟩ := h.at k hlt
      obtain ⟨x, hx⟩ : ∃ x, x = l.getD k 0 := ⟨_, rfl⟩
      rw [← hx] at hcell
      have HX := Lib.hid hx
      clear hx
      by_cases h1 : lo ≤ x
      · by_cases h2 : x ≤ hi
        · go_wp2
          go_round
          case rel => exact ⟨k + 1, by omega, fun j hj => by
            by_cases e : j = k
            · subst e; rw [← HX.out]; exact ⟨h1, h2⟩
            · exact HJ.out j (by omega), by go_num⟩
          case measure => simp [intOf]; omega
        · have HR := Lib.hid (allB_no l lo hi k (by rw [← h.len]; exact hlt) (by rw [← HX.out]; omega))
          go_wp2
          go_ret
          exact ⟨ret_bool HR.out.symm, 0, rfl⟩
      · have HR := Lib.hid (allB_no l lo hi k (by rw [← h.len]; exact hlt) (by rw [← HX.out]; omega))
        go_wp2
        go_ret
        exact ⟨ret_bool HR.out.symm, 0, rfl⟩
    · have HR := Lib.hid (allB_yes l lo hi (fun j hj => HJ.out j (by have := h.len; omega)))
      go_wp2
      go_ret
      exact ⟨ret_bool HR.out.symm, 0, rfl⟩
end Go.Proofs.YtchmakepglaijaaGreat
namespace Go.Proofs.YtchmakepglaijaaGreat
open Go.RowKit
def rowOf (a : Option Addr) (c : Nat) : Option Nat := if c = 0 then none else a.map Addr.block
def RowC (w : World) (a : Option Addr) (n c sz : Nat) (xs : List Value) : Prop :=
  xs.length = n * sz ∧ n ≤ c ∧ c ≤ maxLen ∧ (a = none → c = 0) ∧ ∃ g o, (0 < n → a = some ⟨g, o, none⟩) ∧ ∀ i u, xs[i]? = some u → w.cell? ⟨g, o + i, none⟩ = some u
def OwnC (w : World) (b : Nat) (a : Option Addr) (n c e sz : Nat) (xs : List Value) : Prop :=
  xs.length = n * sz ∧ n ≤ c ∧ c ≤ maxLen ∧ (a = none → c = 0) ∧
  (0 < c → ∃ g cur, a = some ⟨g, 0, none⟩ ∧ b ≤ g ∧ w.heap[g]? = some (.cells cur e (0, 0)) ∧ cur.size = c * sz ∧ cur.toList.take (n * sz) = xs)
theorem OwnC.below {w w' b a n c e sz xs} (h : OwnC w b a n c e sz xs) (hb : Below w.heap.size w w') : OwnC w' b a n c e sz xs :=
  ⟨h.1, h.2.1, h.2.2.1, h.2.2.2.1, fun hc => by
    obtain ⟨g, cur, h1, h2, h3, h4⟩ := h.2.2.2.2 hc
    exact ⟨g, cur, h1, h2, by rw [hb.block g (Array.getElem?_eq_some_iff.1 h3).1]; exact h3, h4⟩⟩
theorem OwnC.lower {w b b' a n c e sz xs} (h : OwnC w b a n c e sz xs) (hb : b' ≤ b) : OwnC w b' a n c e sz xs :=
  ⟨h.1, h.2.1, h.2.2.1, h.2.2.2.1, fun hc => by
    obtain ⟨g, cur, h1, h2, h3⟩ := h.2.2.2.2 hc
    exact ⟨g, cur, h1, by omega, h3⟩⟩
def Apart (a : Option Addr) (c : Nat) (a' : Option Addr) (c' : Nat) : Prop := ∀ x y, 0 < c → 0 < c' → a = some x → a' = some y → x.block ≠ y.block
theorem Apart.symm {a c a' c'} (h : Apart a c a' c') : Apart a' c' a c := fun x y h1 h2 hx hy => (h y x h2 h1 hy hx).symm
theorem rowOf_ne {g : Nat} {a' : Option Addr} {c' : Nat} (h : ∀ y, 0 < c' → a' = some y → g ≠ y.block) : some g ≠ rowOf a' c' := by
  unfold rowOf
  intro e
  split at e
  · cases e
  · cases a' with
    | none => simp at e
    | some y => simp at e; exact h y (by omega) rfl e
theorem OwnC.grown {w w' : World} {b a n c e sz xs} {a' : Option Addr} {c' : Nat} (h : OwnC w b a n c e sz xs) (hg : w.grownBy w' (rowOf a' c')) (hd : Apart a c a' c') : OwnC w' b a n c e sz xs :=
  ⟨h.1, h.2.1, h.2.2.1, h.2.2.2.1, fun hc => by
    obtain ⟨g, cur, h1, h2, h3, h4⟩ := h.2.2.2.2 hc
    exact ⟨g, cur, h1, h2, by rw [hg.block g (Array.getElem?_eq_some_iff.1 h3).1 (rowOf_ne fun y hc' hy => hd _ _ hc hc' h1 hy)]; exact h3, h4⟩⟩
theorem OwnC.range {w b a n c e sz xs} (h : OwnC w b a n c e sz xs) : ∀ x, 0 < c → a = some x → b ≤ x.block ∧ x.block < w.heap.size := by
  intro x hc hx
  obtain ⟨g, cur, h1, h2, h3, _⟩ := h.2.2.2.2 hc
  rw [h1] at hx; cases hx
  exact ⟨h2, (Array.getElem?_eq_some_iff.1 h3).1⟩
theorem OwnC.nil0 (w : World) (b e sz : Nat) (a : Option Addr) : OwnC w b a 0 0 e sz [] := ⟨by simp, Nat.le_refl _, Nat.zero_le _, fun _ => rfl, fun h => absurd h (by omega)⟩
theorem OwnC.lit (w : World) (b n e sz : Nat) (xs : List Value) (hb : b ≤ w.heap.size) (hn : xs.length = n * sz) (hm : n ≤ maxLen) : OwnC (w.alloc (.cells xs.toArray e)) b (some ⟨w.heap.size, 0, none⟩) n n e sz xs :=
  ⟨hn, Nat.le_refl _, hm, fun h => (by cases h), fun _ => ⟨w.heap.size, xs.toArray, rfl, hb, heap_alloc_new w _, by simp [hn], by rw [← hn]; simp⟩⟩
theorem OwnC.of_owns {w b e sz v n xs} (h : w.ownsRow b e sz v n xs) : ∃ a c, v = .slice a n c ∧ OwnC w b a n c e sz xs := by
  rcases h.2 with ⟨h1, h2⟩ | ⟨g, cap, cur, h1, h2, h3, h4, h5, h6, h7⟩
  · subst h2
    have : xs = [] := List.eq_nil_of_length_eq_zero (by simpa using h.1)
    subst this
    exact ⟨_, _, h1, OwnC.nil0 _ _ _ _ _⟩
  · exact ⟨_, _, h1, h.1, h4, h5, fun h => (by cases h), fun _ => ⟨g, cur, rfl, h2, h3, h6, h7⟩⟩
theorem OwnC.owns {w b a n c e sz xs} (h : OwnC w b a n c e sz xs) (hc : 0 < c) : w.ownsRow b e sz (.slice a n c) n xs := by
  obtain ⟨g, cur, h1, h2, h3, h4, h5⟩ := h.2.2.2.2 hc
  exact ⟨h.1, .inr ⟨g, c, cur, by rw [h1], h2, h3, h.2.1, h.2.2.1, h4, h5⟩⟩
theorem OwnC.row {w b a n c e sz xs} (h : OwnC w b a n c e sz xs) : RowC w a n c sz xs := by
  refine ⟨h.1, h.2.1, h.2.2.1, h.2.2.2.1, ?_⟩
  by_cases hc : 0 < c
  · obtain ⟨g, cur, h1, h2, h3, h4, h5⟩ := h.2.2.2.2 hc
    refine ⟨g, 0, fun _ => h1, fun i u hu => ?_⟩
    rw [Nat.zero_add, cell_of_row w g i cur e (0, 0) h3]
    rw [← h5, List.getElem?_take] at hu
    split at hu
    · simpa using hu
    · cases hu
  · have h1 := h.1
    obtain rfl : n = 0 := by have := h.2.1; omega
    have : xs = [] := List.eq_nil_of_length_eq_zero (by simpa using h1)
    subst this
    exact ⟨0, 0, fun h => absurd h (by omega), fun i u hu => by simp at hu⟩
theorem OwnC.atC {w b a n c e sz xs} (h : OwnC w b a n c e sz xs) (k : Nat) (hk : k < n * sz) : ∃ g, a = some ⟨g, 0, none⟩ ∧ b ≤ g ∧ g < w.heap.size ∧ (∃ u, xs[k]? = some u ∧ w.cell? ⟨g, k, none⟩ = some u) ∧ w.frozen? ⟨g, k, none⟩ = false ∧
    ∀ u, OwnC (w.setCell ⟨g, k, none⟩ u) b (some ⟨g, 0, none⟩) n c e sz (xs.set k u) := by
  have hn : 0 < n := by cases n with
    | zero => simp at hk
    | succ n => omega
  have hc : 0 < c := by have := h.2.1; omega
  obtain ⟨g, cur, h1, h2, h3, h4, h5⟩ := h.2.2.2.2 hc
  have ho := h.owns hc
  subst h1
  have hx : k < xs.length := by rw [h.1]; exact hk
  refine ⟨g, rfl, h2, (Array.getElem?_eq_some_iff.1 h3).1, ⟨xs[k], by simp [hx], by rw [ho.cellAt k hk]; simp [hx]⟩, ho.frozenAt k, fun u => ?_⟩
  obtain ⟨a', c', e', ho'⟩ := OwnC.of_owns (ho.stored k u).1
  cases e'
  exact ho'
theorem RowC.below {w w' a n c sz xs} (h : RowC w a n c sz xs) (hb : Below w.heap.size w w') : RowC w' a n c sz xs := by
  obtain ⟨h1, h2, h3, h4, g, o, h5, h6⟩ := h
  exact ⟨h1, h2, h3, h4, g, o, h5, fun i u hu => by rw [hb.cell (World.block_lt_of_cell? w _ (h6 i u hu))]; exact h6 i u hu⟩
theorem OwnC.prefix_row {w b a n m c e sz xs xs'} (h : OwnC w b a (n + m) c e sz (xs ++ xs')) (hx : xs.length = n * sz) : RowC w a n c sz xs := by
  obtain ⟨h1, h2, h3, h4, g, o, h5, h6⟩ := h.row
  exact ⟨hx, by omega, h3, h4, g, o, fun hn => h5 (by omega), fun i u hu => h6 i u (by
    have hi := (List.getElem?_eq_some_iff.1 hu).1
    rw [List.getElem?_append_left hi]; exact hu)⟩
theorem RowC.keep {w w' a n c sz xs} (h : RowC w a n c sz xs) (hg : w.grownBy w' none) : RowC w' a n c sz xs := by
  obtain ⟨h1, h2, h3, h4, g, o, h5, h6⟩ := h
  exact ⟨h1, h2, h3, h4, g, o, h5, fun i u hu => hg.cell (h6 i u hu) (by simp)⟩
theorem grownBy_some {w w' : World} (h : w.grownBy w' none) (r : Option Nat) : w.grownBy w' r := ⟨h.os, h.tape, h.output, h.size, fun k hk _ => h.block k hk (by simp)⟩
theorem run_app {P : Program} (w : World) (t ty : TypeId)
    (b e : Nat) (i : TypeInfo) (z : Value) (sz bytes : Nat) (ht : P.underlying t = some (.slice e)) (hi : P.info? e = some i) (hz : i.zero = some z)
    (hsize : i.size = sz) (hby : i.bytes = bytes) (hzs : z.cells.size = sz) (hsz : 0 < sz)
    (a : Option Addr) (n c : Nat) (xs : List Value) (hown : OwnC w b a n c e sz xs)
    (a' : Option Addr) (m c' : Nat) (xs' : List Value) (hrow : RowC w a' m c' sz xs') (h1 : ∀ u ∈ xs', u.oneCell' = true)
    (hbytes : (n + m) * bytes ≤ 140737488355328) (hmax : n + m ≤ maxLen) (hbase : b ≤ w.heap.size) :
    ∃ a2 c2 w', (Builtin.append_ #[t, t] ty #[.slice a n c, .slice a' m c']).run P w = .ok (.slice a2 (n + m) c2) w' ∧ OwnC w' b a2 (n + m) c2 e sz (xs ++ xs') ∧ w.grownBy w' (rowOf a c) ∧ RowC w' a n c sz xs := by
  by_cases hm : m = 0
  · subst hm
    have hx' : xs' = [] := List.eq_nil_of_length_eq_zero (by simpa using hrow.1)
    subst hx'
    have hnc := hown.2.1
    refine ⟨a, c, w, ?_, by simpa using hown, World.grownBy.refl _ _, hown.row⟩
    cases a' with
    | none => cases a <;> simp [Builtin.append_, run_underlying ht, sizeOf, typeInfo, hi, Builtin.lenOf, Builtin.firstCells, hnc, storeCells]
    | some y =>
      have hf := run_firstCells_some (P := P) w i.size 0 y 0 c' [] (by simp) (fun j u hu => by simp at hu)
      cases a <;> simp [Builtin.append_, run_underlying ht, sizeOf, typeInfo, hi, Builtin.lenOf, hf, hnc, storeCells]
  · obtain ⟨hr1, hr2, hr3, hr4, g', o', hr5, hr6⟩ := hrow
    obtain rfl := hr5 (by omega)
    have hadd : ∀ (g o j : Nat), (⟨g, o, none⟩ : Addr).add j = ⟨g, o + j, none⟩ := fun g o j => by unfold Addr.add; split <;> simp_all
    have hnews : ∀ j u, xs'[j]? = some u → w.cell? ((⟨g', o', none⟩ : Addr).add j) = some u := fun j u hu => by rw [hadd]; exact hr6 j u hu
    by_cases hc : 0 < c
    · obtain ⟨g, cur, hag, hbg, hgg, hcs, hct⟩ := hown.2.2.2.2 hc
      have hob := hown.owns hc
      have hro : rowOf a c = some g := by unfold rowOf; rw [if_neg (by omega), hag]; rfl
      subst hag
      by_cases hroom : n + m ≤ c
      · obtain ⟨w', hrun, r1, r2⟩ := run_append_fits (P := P) w b t ty e i sz ht hi hsize g n c xs hob ⟨g', o', none⟩ m c' xs' hr1 hnews h1 hroom
        obtain ⟨a2, c2, e2, h2⟩ := OwnC.of_owns r1
        cases e2
        exact ⟨_, _, w', hrun, h2, by rw [hro]; exact r2, h2.prefix_row hown.1⟩
      · obtain ⟨v', w', hrun, r1, r2⟩ := run_append_arg_grows (P := P) w t ty e i z sz bytes ht hi hz hsize hby hzs hsz ⟨g, 0, none⟩ n c xs hown.1 (fun j u hu => by
          obtain ⟨q1, q2, q3, q4, gg, oo, q5, q6⟩ := hown.row
          have hn0 : 0 < n := by
            have := (List.getElem?_eq_some_iff.1 hu).1
            rw [hown.1] at this
            cases n with
            | zero => simp at this
            | succ n => omega
          have := q5 hn0
          cases this
          rw [hadd]; exact q6 j u hu) ⟨g', o', none⟩ m c' xs' hr1 hnews (by omega) hmax hbytes
        obtain ⟨a2, c2, rfl, h2⟩ := OwnC.of_owns r1
        exact ⟨_, _, w', hrun, h2.lower hbase, grownBy_some r2 _, hown.row.keep r2⟩
    · have hn0 : n = 0 := by have := hown.2.1; omega
      have hc0 : c = 0 := by omega
      subst hn0; subst hc0
      have hxe : xs = [] := List.eq_nil_of_length_eq_zero (by simpa using hown.1)
      subst hxe
      cases a with
      | none =>
        obtain ⟨v', w', hrun, r1, r2, _⟩ := run_append_own (P := P) w w.heap.size t ty e i z sz bytes ht hi hz hsize hby hzs hsz (.slice none 0 0) 0 [] (World.ownsRow_nil w _ e sz) ⟨g', o', none⟩ m c' xs' hr1 hnews h1 hmax hbytes (Nat.le_refl _)
        obtain ⟨a2, c2, rfl, h2⟩ := OwnC.of_owns r1
        exact ⟨_, _, w', hrun, h2.lower hbase, by unfold rowOf; exact r2, hown.row.keep r2⟩
      | some y =>
        obtain ⟨v', w', hrun, r1, r2⟩ := run_append_arg_grows (P := P) w t ty e i z sz bytes ht hi hz hsize hby hzs hsz y 0 0 [] (by simp) (fun j u hu => by simp at hu) ⟨g', o', none⟩ m c' xs' hr1 hnews (by omega) hmax hbytes
        obtain ⟨a2, c2, rfl, h2⟩ := OwnC.of_owns r1
        exact ⟨_, _, w', hrun, h2.lower hbase, grownBy_some r2 _, hown.row.keep r2⟩
def Own (w : World) (b : Nat) (a : Option Addr) (n c : Nat) (l : List Int) : Prop := OwnC w b a n c 3 1 (l.map (Value.int .i64))
theorem Own.len {w b a n c l} (h : Own w b a n c l) : n = l.length := by have := h.1; simpa using this.symm
theorem Own.cap {w b a n c l} (h : Own w b a n c l) : n ≤ c ∧ c ≤ maxLen := ⟨h.2.1, h.2.2.1⟩
theorem Ints.rowC {w a n c l} (h : Ints w a n c l) : RowC w a n c 1 (l.map (Value.int .i64)) := by
  obtain ⟨h1, h2, h3, h4, g, o, h5, h6⟩ := h
  refine ⟨by simp [h1], h2, h3, h4, g, o, h5, fun i u hu => ?_⟩
  simp only [List.getElem?_map, Option.map_eq_some_iff] at hu
  obtain ⟨x, hx, rfl⟩ := hu
  have hi : i < l.length := (List.getElem?_eq_some_iff.1 hx).1
  rw [h6 i (by omega)]
  simp [List.getD, hx]
theorem Ints.of_rowC {w a n c} {l : List Int} (h : RowC w a n c 1 (l.map (Value.int .i64))) : Ints w a n c l := by
  obtain ⟨h1, h2, h3, h4, g, o, h5, h6⟩ := h
  have hn : n = l.length := by simpa using h1.symm
  refine ⟨hn, h2, h3, h4, g, o, h5, fun i hi => ?_⟩
  have hl : i < l.length := by omega
  exact h6 i _ (by simp [List.getD, hl])
theorem Ints.cells {w a n c l} (h : Ints w a n c l) (hn : 0 < n) : ∃ g o, a = some ⟨g, o, none⟩ ∧ ∀ k, k < n → w.cell? ⟨g, o + k, none⟩ = some (.int .i64 (l.getD k 0)) := by
  obtain ⟨_, _, _, _, g, o, h1, h2⟩ := h
  exact ⟨g, o, h1 hn, h2⟩
theorem Ints.cellsAt {w g o n c l} (h : Ints w (some ⟨g, o, none⟩) n c l) : ∀ k, k < n → w.cell? ⟨g, o + k, none⟩ = some (.int .i64 (l.getD k 0)) := by
  intro k hk
  obtain ⟨g', o', e, h'⟩ := h.cells (by omega)
  cases e
  exact h' k hk
theorem Own.ints {w b a n c l} (h : Own w b a n c l) : Ints w a n c l := by
  obtain ⟨h1, h2, h3, h4, g, o, h5, h6⟩ := h.row
  refine ⟨h.len, h2, h3, h4, g, o, h5, fun i hi => ?_⟩
  have hl : i < l.length := by have := h.len; omega
  exact h6 i _ (by simp [List.getD, hl])
theorem Own.below {w w' b a n c l} (h : Own w b a n c l) (hb : Below w.heap.size w w') : Own w' b a n c l := OwnC.below h hb
theorem Own.lower {w b b' a n c l} (h : Own w b a n c l) (hb : b' ≤ b) : Own w b' a n c l := OwnC.lower h hb
theorem Own.drewN {w b a n c l} (h : Own w b a n c l) (m : Nat) : Own (w.drewN m) b a n c l := h.below (below_of_drewN m)
theorem Own.drew {w b a n c l} (h : Own w b a n c l) : Own w.drew b a n c l := h.below ((Below.refl _ _).drew)
theorem Ints.drew {w a n c l} (h : Ints w a n c l) : Ints w.drew a n c l := h.below ((Below.refl _ _).drew)
theorem Own.alloc {w b a n c l} (h : Own w b a n c l) (ob : Obj) : Own (w.alloc ob) b a n c l := h.below ((Below.refl _ _).alloc (Nat.le_refl _) _)
theorem Own.nil0 (w : World) (b : Nat) (a : Option Addr) : Own w b a 0 0 [] := OwnC.nil0 w b 3 1 a
theorem Own.grown {w w' : World} {b a n c l} {a' : Option Addr} {c' : Nat} (h : Own w b a n c l) (hg : w.grownBy w' (rowOf a' c')) (hd : Apart a c a' c') : Own w' b a n c l := OwnC.grown h hg hd
theorem Own.range {w b a n c l} (h : Own w b a n c l) : ∀ x, 0 < c → a = some x → b ≤ x.block ∧ x.block < w.heap.size := OwnC.range h
theorem Own.at {w b a n c l} (h : Own w b a n c l) (k : Nat) (hk : k < n) : ∃ g, a = some ⟨g, 0, none⟩ ∧ b ≤ g ∧ g < w.heap.size ∧ w.cell? ⟨g, k, none⟩ = some (.int .i64 (l.getD k 0)) ∧ w.frozen? ⟨g, k, none⟩ = false ∧
    ∀ x, Own (w.setCell ⟨g, k, none⟩ (.int .i64 x)) b (some ⟨g, 0, none⟩) n c (l.set k x) := by
  obtain ⟨g, rfl, hb, hg, ⟨u, hu, hc⟩, hf, hs⟩ := OwnC.atC h k (by omega)
  have hl : k < l.length := by have := h.len; omega
  refine ⟨g, rfl, hb, hg, ?_, hf, fun x => by unfold Own; rw [List.map_set]; exact hs _⟩
  rw [hc, ← hu]
  simp [List.getD, hl]
theorem Own.lit (w : World) (b : Nat) (l : List Int) (hb : b ≤ w.heap.size) (h : l.length ≤ maxLen) : Own (w.alloc (.cells (l.map (Value.int .i64)).toArray 3)) b (some ⟨w.heap.size, 0, none⟩) l.length l.length l :=
  OwnC.lit w b l.length 3 1 _ hb (by simp) h
theorem Own.of_owns {w b v n} {l : List Int} (h : w.ownsRow b 3 1 v n (l.map (Value.int .i64))) : ∃ a c, v = .slice a n c ∧ Own w b a n c l := OwnC.of_owns h
theorem Ints.grown {w w' : World} {a n c l} {a' : Option Addr} {c' : Nat} (h : Ints w a n c l) (hg : w.grownBy w' (rowOf a' c')) (hd : ∀ x y, 0 < n → 0 < c' → a = some x → a' = some y → x.block ≠ y.block) : Ints w' a n c l := by
  obtain ⟨h1, h2, h3, hn, g, o, h4, h5⟩ := h
  exact ⟨h1, h2, h3, hn, g, o, h4, fun i hi => hg.cell (h5 i hi) (rowOf_ne fun y hc hy => hd ⟨g, o, none⟩ y (by omega) hc (h4 (by omega)) hy)⟩
theorem Ints.range {w a n c l} (h : Ints w a n c l) : ∀ x, 0 < n → a = some x → 0 ≤ x.block ∧ x.block < w.heap.size := by
  intro x hn hx
  obtain ⟨g, o, hg, h1⟩ := h.at 0 hn
  rw [hg] at hx
  cases hx
  exact ⟨Nat.zero_le _, World.block_lt_of_cell? w _ h1⟩
theorem info_int : (Tryz.prog.info? 3).map (fun i => (i.zero, i.size, i.bytes)) = some (some (.int .i64 0), 1, 8) := by kernel_rfl
theorem below_grownBy {B : Nat} {w w' : World} {a : Option Addr} {c : Nat} (hg : w.grownBy w' (rowOf a c)) (hB : B ≤ w.heap.size) (h : ∀ x, 0 < c → a = some x → B ≤ x.block) : Below B w w' :=
  (Below.refl _ _).grown hg hB (fun k hk => by
    unfold rowOf at hk
    split at hk
    · cases hk
    · cases a with
      | none => simp at hk
      | some x => simp at hk; subst hk; exact h x (by omega) rfl)
theorem below_a1 {w w' : World} {o : Obj} (h : Below (w.alloc o).heap.size (w.alloc o) w') : Below w.heap.size w w' := ((Below.refl _ _).alloc (Nat.le_refl _) _).trans (h.mono (by simp))
theorem run_appI (w : World) (ty : TypeId) (b : Nat) (a : Option Addr) (n c : Nat) (l : List Int) (hown : Own w b a n c l) (a' : Option Addr) (m c' : Nat) (l' : List Int) (hrow : Ints w a' m c' l') (hlen : n + m ≤ 1000000000000) (hbase : b ≤ w.heap.size) :
    ∃ a2 c2 w', (Builtin.append_ #[23, 23] ty #[.slice a n c, .slice a' m c']).run Tryz.prog w = .ok (.slice a2 (n + m) c2) w' ∧ Own w' b a2 (n + m) c2 (l ++ l') ∧ Below b w w' ∧ w.grownBy w' (rowOf a c) ∧ Ints w' a n c l := by
  obtain ⟨i0, hi, hz0, hz1, hz2⟩ := info_parts info_int
  obtain ⟨a2, c2, w', hrun, h1, h2, h3⟩ := run_app w 23 ty b 3 i0 (.int .i64 0) 1 8 Tryz.underlying23 hi hz0 hz1 hz2 rfl (by decide) a n c _ hown a' m c' _ hrow.rowC (by
    intro u hu
    simp only [List.mem_map] at hu
    obtain ⟨y, _, rfl⟩ := hu
    rfl) (by omega) (by unfold maxLen; omega) hbase
  exact ⟨a2, c2, w', hrun, by unfold Own; rw [List.map_append]; exact h1, below_grownBy h2 hbase (fun x hc hx => (hown.range x hc hx).1), h2, Ints.of_rowC h3⟩
theorem wp_appI (w : World) {o : Oper} {act : Act} {K : Act → World → Prop} {Q : Exit → Act → World → Prop} (s x : Operand)
    (ho : o.op = .call { callee := .builtin .append, args := #[s, x], argTypes := #[23, 23] })
    (b : Nat) (a : Option Addr) (n c : Nat) (l : List Int) (hs : act.eval s = .slice a n c) (hown : Own w b a n c l)
    (a' : Option Addr) (m c' : Nat) (l' : List Int) (hx : act.eval x = .slice a' m c') (hrow : Ints w a' m c' l')
    (hlen : n + m ≤ 1000000000000) (hbase : b ≤ w.heap.size)
    (h : ∀ a2 c2 w', Own w' b a2 (n + m) c2 (l ++ l') → Below b w w' → w.grownBy w' (rowOf a c) → Ints w' a n c l → K (act.put o.dst (.slice a2 (n + m) c2)) w') : o.wp Tryz.prog act w K Q := by
  obtain ⟨a2, c2, w', hrun, h1, h2, h3, h4⟩ := run_appI w o.type b a n c l hown a' m c' l' hrow hlen hbase
  unfold Oper.wp
  simp [execOp, ho, resolve, invoke, builtin, hs, hx, hrun, Result.andThen]
  exact h a2 c2 w' h1 h2 h3 h4
theorem wpList_appI (w : World) {ops : Array Oper} {rest : List Oper} {o : Oper} {act : Act} {Q : Exit → Act → World → Prop} (hgd : o.guard = none) (s x : Operand)
    (ho : o.op = .call { callee := .builtin .append, args := #[s, x], argTypes := #[23, 23] })
    (b : Nat) (a : Option Addr) (n c : Nat) (l : List Int) (hs : act.eval s = .slice a n c) (hown : Own w b a n c l)
    (a' : Option Addr) (m c' : Nat) (l' : List Int) (hx : act.eval x = .slice a' m c') (hrow : Ints w a' m c' l')
    (hlen : n + m ≤ 1000000000000) (hbase : b ≤ w.heap.size)
    (h : ∀ a2 c2 w', Own w' b a2 (n + m) c2 (l ++ l') → Below b w w' → w.grownBy w' (rowOf a c) → wpList Tryz.prog ops Q rest (act.put o.dst (.slice a2 (n + m) c2)) w') : wpList Tryz.prog ops Q (o :: rest) act w :=
  wpList_plain hgd fun _ hK => wp_appI w s x ho b a n c l hs hown a' m c' l' hx hrow hlen hbase fun a2 c2 w' h1 h2 h3 _ => hK _ _ (h a2 c2 w' h1 h2 h3)
end Go.Proofs.YtchmakepglaijaaGreat
namespace Go.Proofs.YtchmakepglaijaaGreat
open Go.RowKit
theorem enters {P : Program} {f : FuncId} {fn : Func} (hf : P.funcs[f]? = some fn) (hname : (fn.name == "runtime.NumGoroutine") = false) (hb : fn.body.isSome = true) (args : Array Value) (w : World) :
    (callFunc f args).run P w = .ok (.enter f args) w := by
  have h1 : fn.name ≠ "runtime.NumGoroutine" := by simpa using hname
  obtain ⟨c, hc⟩ := Option.isSome_iff_exists.1 hb
  simp [callFunc, hf, h1, hc]
theorem any_hit (l : List Int) (q : Int → Bool) (k : Nat) (h : k < l.length) (hq : q (l.getD k 0) = true) : l.any q = true := by
  rw [List.any_eq_true]; exact ⟨_, getD_mem l k h, hq⟩
theorem any_miss (l : List Int) (q : Int → Bool) (h : ∀ i, i < l.length → q (l.getD i 0) = false) : l.any q = false := by
  rw [List.any_eq_false]; intro x hx; obtain ⟨k, hk, rfl⟩ := mem_getD l x hx; rw [h k hk]; simp
set_option maxHeartbeats 400000 in
theorem IndexFunc_any (a : Option Addr) (n c : Nat) (l : List Int) (f : Nat) (cap : Array Value) (q : Int → Bool) (w : World) (h : Ints w a n c l)
    (hf : ∀ args W, (callFunc f args).run Tryz.prog W = .ok (.enter f args) W)
    (hq : ∀ W x, Below w.heap.size w W → x ∈ l → Calls Tryz.prog f (#[.int .i64 x] ++ cap) W fun e w' => e = .returned (.bool (q x)) ∧ ∃ m, w' = W.drewN m) :
    Calls Tryz.prog 124 #[.slice a n c, .func (.func f) #[] cap] w fun e w' => ∃ i : Int, e = .returned (.int .i64 i) ∧ Hid (decide (0 ≤ i) = l.any q) ∧ ∃ m, w' = w.drewN m := by
  have hn := h.le
  have HQ := Lib.hid hq
  clear hq
  go_enter Tryz.func124, Tryz.ntmps124
  go_wp2
  go_loopw [8] (fun v wr => ∃ k : Nat, k ≤ n ∧ v = .int .i64 k ∧ (∀ i, i < k → q (l.getD i 0) = false) ∧ ∃ m, wr = w.drewN m) (fun v _ => n - (intOf v).toNat)
  case atStart => exact ⟨0, Nat.zero_le _, rfl, fun i hi => absurd hi (by omega), 0, rfl⟩
  case round =>
    obtain ⟨k, hk, rfl, hj, m, rfl⟩ := hrel
    have HJ := Lib.hid hj
    clear hj
    by_cases hlt : k < n
    · obtain ⟨g, o, rfl, hcell⟩ := h.at k hlt
      have HC := Lib.hid (HQ.out (w.drewN m) (l.getD k 0) (below_of_drewN m) (getD_mem l k (by rw [← h.len]; exact hlt)))
      cases hb : q (l.getD k 0)
      · rw [hb] at HC
        have HB := Lib.hid hb
        clear hb
        go_wp2_with (refine HC.out.mono ?_; rintro e w' ⟨rfl, m', rfl⟩)
        go_roundw
        case rel => exact ⟨k + 1, by omega, by go_num, fun i hi => by
          by_cases e : i = k
          · subst e; exact HB.out
          · exact HJ.out i (by omega), _, rfl⟩
        case measure => simp [intOf]; omega
      · rw [hb] at HC
        have HB := Lib.hid (any_hit l q k (by rw [← h.len]; exact hlt) hb)
        clear hb
        go_wp2_with (refine HC.out.mono ?_; rintro e w' ⟨rfl, m', rfl⟩)
        go_ret
        exact ⟨k, rfl, by unfold Hid; rw [HB.out]; simp, _, rfl⟩
    · have HB := Lib.hid (any_miss l q (fun i hi => HJ.out i (by have := h.len; omega)))
      go_wp2
      go_ret
      exact ⟨-1, rfl, by unfold Hid; rw [HB.out]; decide, _, rfl⟩
set_option maxHeartbeats 400000 in
theorem ContainsFunc_any (a : Option Addr) (n c : Nat) (l : List Int) (f : Nat) (cap : Array Value) (q : Int → Bool) (w : World) (h : Ints w a n c l)
    (hf : ∀ args W, (callFunc f args).run Tryz.prog W = .ok (.enter f args) W)
    (hq : ∀ W x, Below w.heap.size w W → x ∈ l → Calls Tryz.prog f (#[.int .i64 x] ++ cap) W fun e w' => e = .returned (.bool (q x)) ∧ ∃ m, w' = W.drewN m) :
    Calls Tryz.prog 84 #[.slice a n c, .func (.func f) #[] cap] w fun e w' => e = .returned (.bool (l.any q)) ∧ ∃ m, w' = w.drewN m := by
  have HF := Lib.hid hf
  have HQ := Lib.hid hq
  clear hf hq
  go_enter Tryz.func84, Tryz.ntmps84
  go_wp2_with (go_at_call 124; refine (IndexFunc_any _ _ _ l _ _ q _ h HF.out HQ.out).mono ?_; rintro e w' ⟨i, rfl, hi, m, rfl⟩)
  go_ret
  exact ⟨ret_bool (by assumption), _, rfl⟩
end Go.Proofs.YtchmakepglaijaaGreat
namespace Go.Proofs.YtchmakepglaijaaGreat
open Go.RowKit
def elsB (p : Int) (l : List Int) : Bool := isPr p && allB l 0 (p - 1)
theorem elsB_true {p : Int} {l : List Int} (h : elsB p l = true) : isPr p = true ∧ 2 ≤ p ∧ p ≤ 251 ∧ allB l 0 (p - 1) = true := by
  unfold elsB at h
  simp only [Bool.and_eq_true] at h
  have := isPr_range h.1
  exact ⟨h.1, this.1, this.2, h.2⟩
set_option maxHeartbeats 400000 in
theorem fpIn_any (p : Int) (a : Option Addr) (n c : Nat) (l : List Int) (w : World) (h : Ints w a n c l) :
    Calls Tryz.prog 98 #[.int .i64 p, .slice a n c] w fun e w' => e = .returned (.bool (elsB p l)) ∧ ∃ m, w' = w.drewN m := by
  unfold elsB
  cases hp : isPr p
  · simp only [Bool.false_and]
    go_enter Tryz.func98, Tryz.ntmps98
    go_wp2_with (first | (go_at_call 42; refine (fpGood_any _ _).mono ?_; rintro e w' ⟨rfl, m, rfl⟩))
    go_ret
    exact ⟨rfl, _, rfl⟩
  · obtain ⟨r1, r2⟩ := isPr_range hp
    simp only [Bool.true_and]
    go_enter Tryz.func98, Tryz.ntmps98
    go_wp2_with (first | (go_at_call 42; refine (fpGood_any _ _).mono ?_; rintro e w' ⟨rfl, m, rfl⟩) | (go_at_call 86; refine (l1All_any _ _ _ l _ _ _ (by exact h.drewN _)).mono ?_; rintro e w' ⟨rfl, m, rfl⟩))
    go_ret
    exact ⟨rfl, _, rfl⟩
end Go.Proofs.YtchmakepglaijaaGreat
namespace Go.Proofs.YtchmakepglaijaaGreat
open Go.RowKit
theorem keepC {w w' : World} {p : Addr} {v : Value} (u : Below w.heap.size w w') (h : w.cell? p = some v) : w'.cell? p = some v := by
  rw [u.cell (World.block_lt_of_cell? w _ h)]; exact h
theorem keepA {w : World} {p : Addr} {v : Value} (ob : Obj) (h : w.cell? p = some v) : (w.alloc ob).cell? p = some v := keepC ((Below.refl _ _).alloc (Nat.le_refl _) ob) h
theorem add_mod2 (a b p : Int) : (a + b % p) % p = (a + b) % p := by rw [Int.add_emod, Int.emod_emod_of_dvd _ (Int.dvd_refl _), ← Int.add_emod]
def sumK (p : Int) (l l' : List Int) (k : Nat) : List Int := (List.range k).map fun i => (l.getD i 0 + l'.getD i 0) % p
theorem sumK_succ (p : Int) (l l' : List Int) (k : Nat) : sumK p l l' (k + 1) = sumK p l l' k ++ [(l.getD k 0 + l'.getD k 0) % p] := by simp [sumK, List.range_succ]
theorem getD_range (l : List Int) (lo hi : Int) (h : ∀ x ∈ l, lo ≤ x ∧ x ≤ hi) (k : Nat) (hk : k < l.length) : lo ≤ l.getD k 0 ∧ l.getD k 0 ≤ hi := h _ (getD_mem l k hk)
set_option maxHeartbeats 1000000 in
theorem trSum_any (p : Int) (a : Option Addr) (n c : Nat) (l : List Int) (a' : Option Addr) (n' c' : Nat) (l' : List Int) (w : World) (h : Ints w a n c l) (h' : Ints w a' n' c' l') (hp : 1 ≤ p) (hp2 : p ≤ 1000000) (hn : n ≤ n') (hs : n ≤ 1000000)
    (hl : ∀ x ∈ l, 0 ≤ x ∧ x ≤ 1000000) (hl' : ∀ x ∈ l', 0 ≤ x ∧ x ≤ 1000000) :
    Calls Tryz.prog 71 #[.int .i64 p, .slice a n c, .slice a' n' c'] w fun e w' => ∃ a1 c1, e = .returned (.slice a1 n c1) ∧ Own w' w.heap.size a1 n c1 (sumK p l l' n) ∧ Below w.heap.size w w' := by
  have HL := Lib.hid hl
  have HL' := Lib.hid hl'
  clear hl hl'
  go_enter Tryz.func71, Tryz.ntmps71
  go_wp2
  have own0 : Own w w.heap.size none 0 0 (sumK p l l' 0) := Own.nil0 _ _ _
  have bel0 := Below.refl w.heap.size w
  go_loopw [7, 12] (fun u v wr => ∃ k : Nat, k ≤ n ∧ v = .int .i64 k ∧ Below w.heap.size w wr ∧ ∃ a1 c1, u = .slice a1 k c1 ∧ Own wr w.heap.size a1 k c1 (sumK p l l' k)) (fun _ v _ => n - (intOf v).toNat)
  case atStart => exact ⟨0, by omega, rfl, bel0, _, _, rfl, own0⟩
  case round =>
    obtain ⟨k, hk, rfl, hbel, a1, c1, rfl, own⟩ := hrel
    have h1 := h.below hbel
    have h2 := h'.below hbel
    have e1 := h1.le
    have e2 := h2.le
    by_cases hlt : k < n
    · have r1 := getD_range l _ _ HL.out k (by have := h.len; omega)
      have r2 := getD_range l' _ _ HL'.out k (by have := h'.len; omega)
      obtain ⟨g, o, rfl, hc⟩ := h1.at k hlt
      obtain ⟨g', o', rfl, hc'⟩ := h2.at k (by omega)
      have HS := Lib.hid (sumK_succ p l l' k)
      generalize l.getD k 0 = x at *
      generalize l'.getD k 0 = y at *
      obtain ⟨r1, r1'⟩ := r1
      obtain ⟨r2, r2'⟩ := r2
      clear h1 h2
      go_wp2_with (at_builtin; refine wpList_appI _ rfl _ _ rfl w.heap.size a1 k c1 (sumK p l l' k) rfl (own.alloc _) _ 1 1 [(x + y) % p] rfl (Ints.lit1 _ _ _) (by omega) (by have := hbel.size; simp; omega) ?_)
      intro a5 c5 w3 o5 u5 _
      rw [← HS.out] at o5
      have b3 := (hbel.alloc hbel.size _).trans u5
      clear u5 hbel own
      go_wp2
      go_roundw
      case rel => exact ⟨k + 1, by omega, by go_num, b3, a5, c5, rfl, o5⟩
      case measure => simp [intOf]; omega
    · have HE := Lib.hid (show n = k by omega)
      go_wp2
      go_ret
      refine ⟨a1, c1, ?_, ?_, hbel⟩
      · rw [HE.out]; rfl
      · rw [HE.out]; exact own
end Go.Proofs.YtchmakepglaijaaGreat
namespace Go.Proofs.YtchmakepglaijaaGreat
open Go.RowKit
def Cg (p a b : Int) : Prop := ∃ k : Int, a = b + p * k
theorem Cg.refl (p a : Int) : Cg p a a := ⟨0, by grind⟩
theorem Cg.of_eq {p a b : Int} (h : a = b) : Cg p a b := h ▸ Cg.refl p a
theorem Cg.symm {p a b : Int} (h : Cg p a b) : Cg p b a := by obtain ⟨k, h⟩ := h; exact ⟨-k, by grind⟩
theorem Cg.trans {p a b c : Int} (h : Cg p a b) (h' : Cg p b c) : Cg p a c := by obtain ⟨k, h⟩ := h; obtain ⟨j, h'⟩ := h'; exact ⟨k + j, by grind⟩
theorem Cg.add {p a b c d : Int} (h : Cg p a b) (h' : Cg p c d) : Cg p (a + c) (b + d) := by obtain ⟨k, h⟩ := h; obtain ⟨j, h'⟩ := h'; exact ⟨k + j, by grind⟩
theorem Cg.sub {p a b c d : Int} (h : Cg p a b) (h' : Cg p c d) : Cg p (a - c) (b - d) := by obtain ⟨k, h⟩ := h; obtain ⟨j, h'⟩ := h'; exact ⟨k - j, by grind⟩
theorem Cg.neg {p a b : Int} (h : Cg p a b) : Cg p (-a) (-b) := by obtain ⟨k, h⟩ := h; exact ⟨-k, by grind⟩
theorem Cg.mul {p a b c d : Int} (h : Cg p a b) (h' : Cg p c d) : Cg p (a * c) (b * d) := by
  obtain ⟨k, h⟩ := h; obtain ⟨j, h'⟩ := h'; exact ⟨k * d + b * j + p * k * j, by rw [h, h']; grind⟩
theorem Cg.emod (p a : Int) : Cg p (a % p) a := ⟨-(a / p), by rw [Int.emod_def]; grind⟩
theorem Cg.eq {p a b : Int} (h : Cg p a b) : a % p = b % p := by obtain ⟨k, h⟩ := h; rw [h, Int.add_mul_emod_self_left]
theorem Cg.zero {p a : Int} (h : Cg p a 0) : a % p = 0 := by have := h.eq; simpa using this
theorem Cg.small {p a : Int} (h : Cg p a 0) (h0 : 0 ≤ a) (h1 : a ≤ p - 1) : a = 0 := by
  have := h.zero
  rwa [Int.emod_eq_of_lt h0 (by omega)] at this
end Go.Proofs.YtchmakepglaijaaGreat
namespace Go.Proofs.YtchmakepglaijaaGreat
open Go.RowKit
def wid (n : Int) : Nat := if n ≤ 1 then 0 else if n ≤ 2 then 1 else if n ≤ 4 then 2 else if n ≤ 8 then 3 else if n ≤ 16 then 4 else if n ≤ 32 then 5 else if n ≤ 64 then 6 else if n ≤ 128 then 7 else 8
theorem wid_cases (n : Int) : (n ≤ 1 ∧ wid n = 0) ∨ (1 < n ∧ n ≤ 2 ∧ wid n = 1) ∨ (2 < n ∧ n ≤ 4 ∧ wid n = 2) ∨ (4 < n ∧ n ≤ 8 ∧ wid n = 3) ∨ (8 < n ∧ n ≤ 16 ∧ wid n = 4) ∨ (16 < n ∧ n ≤ 32 ∧ wid n = 5) ∨
    (32 < n ∧ n ≤ 64 ∧ wid n = 6) ∨ (64 < n ∧ n ≤ 128 ∧ wid n = 7) ∨ (128 < n ∧ wid n = 8) := by
  unfold wid
  (repeat' split) <;> omega
theorem wid_le (n : Int) : wid n ≤ 8 := by have := wid_cases n; omega
theorem wid_lt (n : Int) (k : Nat) (h : n ≤ 256) (hk : k ≤ wid n) : k < wid n ↔ (2 : Int) ^ k < n := by
  have := wid_cases n
  generalize wid n = v at *
  rcases (by omega : k = 0 ∨ k = 1 ∨ k = 2 ∨ k = 3 ∨ k = 4 ∨ k = 5 ∨ k = 6 ∨ k = 7 ∨ k = 8) with rfl | rfl | rfl | rfl | rfl | rfl | rfl | rfl | rfl <;>
    omega
theorem pow_in (k : Nat) (h : k ≤ 8) : wrap64 ((2 : Int) ^ k) = (2 : Int) ^ k := by
  apply IntWalk.wrap64_in <;>
  rcases (by omega : k = 0 ∨ k = 1 ∨ k = 2 ∨ k = 3 ∨ k = 4 ∨ k = 5 ∨ k = 6 ∨ k = 7 ∨ k = 8) with rfl | rfl | rfl | rfl | rfl | rfl | rfl | rfl | rfl <;> omega
set_option maxHeartbeats 400000 in
theorem widthFor_any (n : Int) (w : World) (_h1 : 1 ≤ n) (h2 : n ≤ 256) :
    Calls Tryz.prog 49 #[.int .i64 n] w fun e w' => e = .returned (.int .i64 (wid n)) ∧ w = w' := by
  go_enter Tryz.func49, Tryz.ntmps49
  go_wp2
  go_loop [3] (fun v => ∃ k : Nat, k ≤ wid n ∧ v = .int .i64 k) (fun v => 8 - (intOf v).toNat)
  case atStart => exact ⟨0, Nat.zero_le _, rfl⟩
  case round =>
    obtain ⟨k, hk, rfl⟩ := hrel
    have h8 := wid_le n
    have hp := pow_in k (by omega)
    have hw := wid_lt n k h2 hk
    by_cases hlt : k < wid n
    · have h3 : (2 : Int) ^ k < n := hw.1 hlt
      clear hw
      go_wp2
      go_round
      case rel => exact ⟨k + 1, by omega, by go_num⟩
      case measure => simp [intOf]; omega
    · have h3 : ¬ (2 : Int) ^ k < n := fun h => hlt (hw.2 h)
      have h4 : k = wid n := by omega
      have H4 := Lib.hid h4
      clear hw h4
      go_wp2
      go_ret
      exact ⟨ret_int (by rw [← H4.out]), rfl⟩
set_option maxHeartbeats 400000 in
theorem cvWidth_any (n : Int) (w : World) (_h1 : 1 ≤ n) (h2 : n ≤ 256) :
    Calls Tryz.prog 54 #[.int .i64 n] w fun e w' => e = .returned (.int .i64 (wid n)) ∧ w = w' := by
  go_enter Tryz.func54, Tryz.ntmps54
  go_wp2
  go_loop [3] (fun v => ∃ k : Nat, k ≤ wid n ∧ v = .int .i64 k) (fun v => 8 - (intOf v).toNat)
  case atStart => exact ⟨0, Nat.zero_le _, rfl⟩
  case round =>
    obtain ⟨k, hk, rfl⟩ := hrel
    have h8 := wid_le n
    have hp := pow_in k (by omega)
    have hw := wid_lt n k h2 hk
    by_cases hlt : k < wid n
    · have h3 : (2 : Int) ^ k < n := hw.1 hlt
      clear hw
      go_wp2
      go_round
      case rel => exact ⟨k + 1, by omega, by go_num⟩
      case measure => simp [intOf]; omega
    · have h3 : ¬ (2 : Int) ^ k < n := fun h => hlt (hw.2 h)
      have h4 : k = wid n := by omega
      have H4 := Lib.hid h4
      clear hw h4
      go_wp2
      go_ret
      exact ⟨ret_int (by rw [← H4.out]), rfl⟩
end Go.Proofs.YtchmakepglaijaaGreat
namespace Go.Proofs.YtchmakepglaijaaGreat
open Go.RowKit
def ocB (p x : Int) : Bool := isPr p && decide (x = 0 ∨ x = 1)
def ocL (p x : Int) : List Int := if ocB p x then [1, 1] else []
theorem xor00 : bits BinOp.xor IntKind.i64 0 0 = 0 := by decide +kernel
theorem xor01 : bits BinOp.xor IntKind.i64 0 1 = 1 := by decide +kernel
theorem xor10 : bits BinOp.xor IntKind.i64 1 0 = 1 := by decide +kernel
theorem xor11 : bits BinOp.xor IntKind.i64 1 1 = 0 := by decide +kernel
set_option maxHeartbeats 1000000 in
theorem OpenedCounts_any (p x : Int) (w : World) :
    Calls Tryz.prog 29 #[.int .i64 p, .int .i64 x] w fun e w' => ∃ a n c, e = .returned (.tuple #[.slice a n c, .bool (ocB p x)]) ∧ Own w' w.heap.size a n c (ocL p x) ∧ Below w.heap.size w w' := by
  unfold ocL ocB
  cases hp : isPr p
  · simp only [Bool.false_and, Bool.false_eq_true, if_false]
    go_enter Tryz.func29, Tryz.ntmps29
    go_wp2_with (first | (go_at_call 36; refine (IsPrime_any _ _).mono ?_; rintro e w' ⟨rfl, m, rfl⟩))
    go_ret2
    exact ⟨_, _, _, rfl, Own.nil0 _ _ _, below_of_drewN _⟩
  · by_cases hx : x = 0 ∨ x = 1
    · rw [decide_eq_true hx]
      simp only [Bool.and_self, if_true]
      rcases hx with rfl | rfl
      all_goals
        have b00 := xor00
        have b01 := xor01
        have b10 := xor10
        have b11 := xor11
        go_enter Tryz.func29, Tryz.ntmps29
        go_wp2_with fail
        refine (IsPrime_any _ _).mono ?_; rintro e w1 ⟨rfl, q1⟩
        have u1 := below_of_quiet q1
        clear q1
        go_wp2
        go_rounds 3
        go_ret2
        exact ⟨_, _, _, rfl, Own.lit _ _ [1, 1] u1.size (by simp [maxLen]), u1.alloc u1.size _⟩
    · rw [decide_eq_false hx]
      simp only [Bool.and_false, Bool.false_eq_true, if_false]
      have h0 : ((x == 0) : Bool) = false := by simp; omega
      have h1 : ((x == 1) : Bool) = false := by simp; omega
      clear hx
      go_enter Tryz.func29, Tryz.ntmps29
      go_wp2_with (first | (go_at_call 36; refine (IsPrime_any _ _).mono ?_; rintro e w' ⟨rfl, m, rfl⟩) | go_in)
      go_ret2
      exact ⟨_, _, _, rfl, Own.nil0 _ _ _, below_of_drewN _⟩
set_option maxHeartbeats 1000000 in
theorem spec_OpenedCounts_any (p x : Int) (w : World) :
    Calls Tryz.prog 30 #[.int .i64 p, .int .i64 x] w fun e w' => ∃ a n c, e = .returned (.tuple #[.slice a n c, .bool (ocB p x)]) ∧ Own w' w.heap.size a n c (ocL p x) ∧ Below w.heap.size w w' := by
  unfold ocL ocB
  cases hp : isPr p
  · simp only [Bool.false_and, Bool.false_eq_true, if_false]
    go_enter Tryz.func30, Tryz.ntmps30
    go_wp2_with (first | (go_at_call 42; refine (fpGood_any _ _).mono ?_; rintro e w' ⟨rfl, m, rfl⟩))
    go_ret2
    exact ⟨_, _, _, rfl, Own.nil0 _ _ _, below_of_drewN _⟩
  · by_cases hx : x = 0 ∨ x = 1
    · rw [decide_eq_true hx]
      simp only [Bool.and_self, if_true]
      rcases hx with rfl | rfl
      all_goals
        have b00 := xor00
        have b01 := xor01
        have b10 := xor10
        have b11 := xor11
        have hmk : ∀ W, (Instr.makeSlice 23 (.int .i64 2) (.int .i64 2)).run Tryz.prog W = .ok (.slice (some ⟨W.heap.size, 0, none⟩) 2 2) (W.alloc (.cells #[.int .i64 0, .int .i64 0] 3)) := fun _ => by kernel_rfl
        go_enter Tryz.func30, Tryz.ntmps30
        go_wp2_with fail
        refine (fpGood_any _ _).mono ?_; rintro e w1 ⟨rfl, q1⟩
        have u1 := below_of_quiet q1
        clear q1
        go_wp2
        go_rounds 3
        go_ret2
        exact ⟨_, _, _, rfl, Own.lit _ _ [1, 1] u1.size (by simp [maxLen]), u1.alloc u1.size _⟩
    · rw [decide_eq_false hx]
      simp only [Bool.and_false, Bool.false_eq_true, if_false]
      have hx2 : x < 0 ∨ 1 < x := by omega
      clear hx
      have hb : (decide (0 ≤ x) && decide (x ≤ 1)) = false := by simp; omega
      have hb2 : 0 ≤ x → decide (x ≤ 1) = false := by intro _; simp; omega
      rcases hx2 with hx2 | hx2
      all_goals
        go_enter Tryz.func30, Tryz.ntmps30
        go_wp2_with (first | (go_at_call 42; refine (fpGood_any _ _).mono ?_; rintro e w' ⟨rfl, m, rfl⟩) | go_in)
        go_ret2
        exact ⟨_, _, _, rfl, Own.nil0 _ _ _, below_of_drewN _⟩
end Go.Proofs.YtchmakepglaijaaGreat
