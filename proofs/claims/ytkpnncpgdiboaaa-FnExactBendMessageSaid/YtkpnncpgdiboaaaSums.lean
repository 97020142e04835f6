/- Sums of shares. -/
import Derived.Test.YtkpnncpgdiboaaaField
namespace Go.Proofs.Ytkpnncpgdiboaaa
open Go.RowKit

theorem keepC {w w' : World} {p : Addr} {v : Value} (u : Below w.heap.size w w') (h : w.cell? p = some v) : w'.cell? p = some v := by
  rw [u.cell (World.block_lt_of_cell? w _ h)]; exact h
theorem keepA {w : World} {p : Addr} {v : Value} (ob : Obj) (h : w.cell? p = some v) : (w.alloc ob).cell? p = some v := keepC ((Below.refl _ _).alloc (Nat.le_refl _) ob) h
theorem add_mod2 (a b p : Int) : (a + b % p) % p = (a + b) % p := by rw [Int.add_emod, Int.emod_emod_of_dvd _ (Int.dvd_refl _), ← Int.add_emod]
/-- The first k sums. -/
def sumK (p : Int) (l l' : List Int) (k : Nat) : List Int := (List.range k).map fun i => (l.getD i 0 + l'.getD i 0) % p
theorem sumK_succ (p : Int) (l l' : List Int) (k : Nat) : sumK p l l' (k + 1) = sumK p l l' k ++ [(l.getD k 0 + l'.getD k 0) % p] := by simp [sumK, List.range_succ]
theorem sumK_len (p : Int) (l l' : List Int) (k : Nat) : (sumK p l l' k).length = k := by simp [sumK]
theorem getD_range (l : List Int) (lo hi : Int) (h : ∀ x ∈ l, lo ≤ x ∧ x ≤ hi) (k : Nat) (hk : k < l.length) : lo ≤ l.getD k 0 ∧ l.getD k 0 ≤ hi := h _ (getD_mem l k hk)
set_option maxHeartbeats 1000000 in
theorem trSum_any (p : Int) (a : Option Addr) (n c : Nat) (l : List Int) (a' : Option Addr) (n' c' : Nat) (l' : List Int) (w : World) (h : Ints w a n c l) (h' : Ints w a' n' c' l') (hp : 1 ≤ p) (hp2 : p ≤ 1000000) (hn : n ≤ n') (hs : n ≤ 1000000)
    (hl : ∀ x ∈ l, 0 ≤ x ∧ x ≤ 1000000) (hl' : ∀ x ∈ l', 0 ≤ x ∧ x ≤ 1000000) :
    Calls Try.prog 87 #[.int .i64 p, .slice a n c, .slice a' n' c'] w fun e w' => ∃ a1 c1, e = .returned (.slice a1 n c1) ∧ Own w' w.heap.size a1 n c1 (sumK p l l' n) ∧ Below w.heap.size w w' := by
  have HL := Lib.hid hl
  have HL' := Lib.hid hl'
  clear hl hl'
  go_enter Try.func87, Try.ntmps87
  go_wp2
  have own0 : Own w w.heap.size none 0 0 (sumK p l l' 0) := Own.nil0 _ _ _
  have bel0 := Below.refl w.heap.size w
  go_loopw [7, 12] (fun u v wr => ∃ k : Nat, k ≤ n ∧ v = .int .i64 k ∧ Below w.heap.size w wr ∧ ∃ a1 c1, u = .slice a1 k c1 ∧ Own wr w.heap.size a1 k c1 (sumK p l l' k)) (fun _ v _ => n - (intOf v).toNat)
  case atStart => exact ⟨0, by omega, rfl, bel0, _, _, rfl, own0⟩
  case round =>
    obtain ⟨k, hk, rfl, hbel, a1, c1, rfl, own⟩ := hrel
    have h1 := h.below hbel
    have h2 := h'.below hbel
    have e1 := h1.le
    have e2 := h2.le
    by_cases hlt : k < n
    · have r1 := getD_range l _ _ HL.out k (by have := h.len; omega)
      have r2 := getD_range l' _ _ HL'.out k (by have := h'.len; omega)
      obtain ⟨g, o, rfl, hc⟩ := h1.at k hlt
      obtain ⟨g', o', rfl, hc'⟩ := h2.at k (by omega)
      have HS := Lib.hid (sumK_succ p l l' k)
      generalize l.getD k 0 = x at *
      generalize l'.getD k 0 = y at *
      obtain ⟨r1, r1'⟩ := r1
      obtain ⟨r2, r2'⟩ := r2
      clear h1 h2
      go_wp2_with (at_builtin; refine wpList_appI _ rfl _ _ rfl w.heap.size a1 k c1 (sumK p l l' k) rfl (own.alloc _) _ 1 1 [(x + y) % p] rfl (Ints.lit1 _ _ _) (by omega) (by have := hbel.size; simp; omega) ?_)
      intro a5 c5 w3 o5 u5 _
      rw [← HS.out] at o5
      have b3 := (hbel.alloc hbel.size _).trans u5
      clear u5 hbel own
      go_wp2
      go_roundw
      case rel => exact ⟨k + 1, by omega, by go_num, b3, a5, c5, rfl, o5⟩
      case measure => simp [intOf]; omega
    · have HE := Lib.hid (show n = k by omega)
      go_wp2
      go_ret
      refine ⟨a1, c1, ?_, ?_, hbel⟩
      · rw [HE.out]; rfl
      · rw [HE.out]; exact own
end Go.Proofs.Ytkpnncpgdiboaaa
