/- Gates: the laws' own helpers. -/
import Derived.Test.YtkbhigdciokfkaaKinds
namespace Go.Proofs.Ytkbhigdciokfkaa
open Go.RowKit
def eGate : Nat := 87
theorem info_Gate : (Try.prog.info? 87).map (fun i => (i.zero, i.size, i.bytes)) = some (some (.agg #[.int .i64 0, .int .i64 0, .int .i64 0]), 3, 24) := by kernel_rfl
theorem madeCells_Gate (n : Nat) : (madeCells #[.int .i64 0, .int .i64 0, .int .i64 0] (n * 3)).toList = List.replicate (n * 3) (Value.int .i64 0) := by
  apply List.ext_getElem (by simp [madeCells])
  intro i h1 h2
  have hm : i % 3 < 3 := Nat.mod_lt _ (by decide)
  simp only [madeCells, Array.toList_map, Array.toList_range, List.getElem_map, List.getElem_range, List.getElem_replicate]
  show (#[.int .i64 0, .int .i64 0, .int .i64 0] : Array Value)[i % 3]! = _
  generalize i % 3 = j at hm
  match j, hm with
  | 0, _ => rfl
  | 1, _ => rfl
  | 2, _ => rfl
set_option maxHeartbeats 4000000 in
set_option maxRecDepth 100000 in
theorem eqGate_same (x0 x1 x2 : Int) (w : World) :
    Calls Try.prog 92 #[.agg #[.int .i64 x0, .int .i64 x1, .int .i64 x2], .agg #[.int .i64 x0, .int .i64 x1, .int .i64 x2]] w fun e w' => e = .returned (.bool true) ∧ Below w.heap.size w w' := by
  have b0 : ((x0 != x0) : Bool) = false := by simp
  have b1 : ((x1 != x1) : Bool) = false := by simp
  have b2 : ((x2 != x2) : Bool) = false := by simp
  go_enter Try.func92, Try.ntmps92
  go_wp2
  go_ret
  exact ⟨rfl, ((Below.refl _ _).alloc (Nat.le_refl _) _).alloc (by simp) _⟩
set_option maxHeartbeats 4000000 in
set_option maxRecDepth 100000 in
theorem eqGateS_b (a : Option Addr) (n c : Nat) (a' : Option Addr) (n' c' : Nat) (l : List Int) (w : World) (h : Flat 3 w a n c l) (h' : Flat 3 w a' n' c' l) :
    Calls Try.prog 45 #[.slice a n c, .slice a' n' c'] w fun e w' => e = .returned (.bool true) ∧ Below w.heap.size w w' := by
  obtain rfl : n = n' := by have := h.len; have := h'.len; omega
  have hn := h.le
  go_enter Try.func45, Try.ntmps45
  go_wp2
  go_loopw [5] (fun v wr => ∃ i : Nat, i ≤ n ∧ v = .int .i64 i ∧ Below w.heap.size w wr) (fun v _ => n - (intOf v).toNat)
  case atStart => exact ⟨0, Nat.zero_le _, rfl, Below.refl _ _⟩
  case round =>
    obtain ⟨i, hk, rfl, hbel⟩ := hrel
    by_cases hlt : i < n
    · obtain ⟨g, o, rfl, hc⟩ := (h.below hbel).at (by omega)
      have c0 : wr.cell? ⟨g, o + i * 3, none⟩ = some (.int .i64 (l.getD (i * 3) 0)) := by have := hc (i * 3) (by omega); simpa only [Nat.add_assoc] using this
      have c1 : wr.cell? ⟨g, o + i * 3 + 1, none⟩ = some (.int .i64 (l.getD (i * 3 + 1) 0)) := by have := hc (i * 3 + 1) (by omega); simpa only [Nat.add_assoc] using this
      have c2 : wr.cell? ⟨g, o + i * 3 + 2, none⟩ = some (.int .i64 (l.getD (i * 3 + 2) 0)) := by have := hc (i * 3 + 2) (by omega); simpa only [Nat.add_assoc] using this
      clear hc
      obtain ⟨g', o', rfl, hc⟩ := (h'.below hbel).at (by omega)
      have d0 : wr.cell? ⟨g', o' + i * 3, none⟩ = some (.int .i64 (l.getD (i * 3) 0)) := by have := hc (i * 3) (by omega); simpa only [Nat.add_assoc] using this
      have d1 : wr.cell? ⟨g', o' + i * 3 + 1, none⟩ = some (.int .i64 (l.getD (i * 3 + 1) 0)) := by have := hc (i * 3 + 1) (by omega); simpa only [Nat.add_assoc] using this
      have d2 : wr.cell? ⟨g', o' + i * 3 + 2, none⟩ = some (.int .i64 (l.getD (i * 3 + 2) 0)) := by have := hc (i * 3 + 2) (by omega); simpa only [Nat.add_assoc] using this
      clear hc
      generalize l.getD (i * 3) 0 = x0 at *
      generalize l.getD (i * 3 + 1) 0 = x1 at *
      generalize l.getD (i * 3 + 2) 0 = x2 at *
      go_wp2
      go_region_held3 (fun W => W.cell? ⟨g, o + i * 3, none⟩ = some (.int .i64 x0) ∧ W.cell? ⟨g, o + i * 3 + 1, none⟩ = some (.int .i64 x1) ∧ W.cell? ⟨g, o + i * 3 + 2, none⟩ = some (.int .i64 x2) ∧ W.cell? ⟨g', o' + i * 3, none⟩ = some (.int .i64 x0) ∧ W.cell? ⟨g', o' + i * 3 + 1, none⟩ = some (.int .i64 x1) ∧ W.cell? ⟨g', o' + i * 3 + 2, none⟩ = some (.int .i64 x2))
        (first | go_keep | exact ⟨keepC u2 c0, keepC u2 c1, keepC u2 c2, keepC u2 d0, keepC u2 d1, keepC u2 d2⟩)
        (first | (go_at_call 92; refine (eqGate_same _ _ _ _).mono ?_; rintro e w2 ⟨rfl, u2⟩))
      all_goals have bel2 : Below w.heap.size w w2 := hbel.drew.trans (u2.mono hbel.size)
      all_goals go_wp2
      all_goals go_roundw
      case rel => exact ⟨i + 1, by omega, by go_num, bel2⟩
      case measure => simp [intOf]; omega
    · go_wp2
      go_ret
      exact ⟨rfl, hbel⟩
set_option maxHeartbeats 4000000 in
set_option maxRecDepth 100000 in
theorem markGateS_o (a : Option Addr) (n c b : Nat) (l : List Int) (k0 : Int) (w : World) (h : OwnF 3 eGate w b a n c l) (h0 : 0 ≤ k0) (h1 : k0 + 3 * (n : Int) ≤ 4000000000000000000) :
    Calls Try.prog 46 #[.slice a n c, .int .i64 k0] w fun e w' => e = .returned (.int .i64 (k0 + 3 * (n : Int))) ∧ (∃ l', OwnF 3 eGate w' b a n c l' ∧ UpFrom k0 l') ∧ Only (foot a c) w w' := by
  have hn := h.flat.le
  go_enter Try.func46, Try.ntmps46
  go_wp2
  go_loopw [1, 5] (fun u v wr => ∃ i : Nat, i ≤ n ∧ u = .int .i64 (k0 + 3 * (i : Int)) ∧ v = .int .i64 i ∧ Only (foot a c) w wr ∧ ∃ l', OwnF 3 eGate wr b a n c l' ∧ ∀ j, j < i * 3 → l'.getD j 0 = k0 + j) (fun _ v _ => n - (intOf v).toNat)
  case atStart => exact ⟨0, Nat.zero_le _, by simp, rfl, Only.refl _ _, l, h, fun i hi => absurd hi (by omega)⟩
  case round =>
    obtain ⟨i, hk, rfl, rfl, hO, l', own, hl⟩ := hrel
    have HL := Lib.hid hl
    clear hl
    by_cases hlt : i < n
    · obtain ⟨g, rfl, _, _, _, _, _⟩ := own.at (i * 3) (by omega)
      have hm : g ∈ foot (some ⟨g, 0, none⟩) c := foot_mem (x := ⟨g, 0, none⟩) (by have := own.cap; omega)
      have hl' := own.len
      obtain ⟨d0, f0⟩ := own.cf (i * 3) (by omega)
      obtain ⟨d1, f1⟩ := own.cf (i * 3 + 1) (by omega)
      obtain ⟨d2, f2⟩ := own.cf (i * 3 + 2) (by omega)
      have st0 := own.put (i * 3) (by omega) (k0 + 3 * (i : Int))
      have st1 := st0.put (i * 3 + 1) (by omega) (k0 + 3 * (i : Int) + 1)
      have st2 := st1.put (i * 3 + 2) (by omega) (k0 + 3 * (i : Int) + 1 + 1)
      have HST := Lib.hid st2
      have HO := Lib.hid (((hO.setCell ⟨g, i * 3, none⟩ (.int .i64 (k0 + 3 * (i : Int))) hm).setCell ⟨g, i * 3 + 1, none⟩ (.int .i64 (k0 + 3 * (i : Int) + 1)) hm).setCell ⟨g, i * 3 + 2, none⟩ (.int .i64 (k0 + 3 * (i : Int) + 1 + 1)) hm)
      clear own hO st0 st1 st2
      go_wp2
      go_roundw
      case rel => exact ⟨i + 1, by omega, v_int (by omega), by go_num, HO.out, _, HST.out, fun j hj => by
        rw [getD_set, getD_set, getD_set]
        simp only [List.length_set]
        by_cases z2 : j = i * 3 + 2
        · subst z2; rw [if_pos ⟨rfl, by omega⟩]; omega
        by_cases z1 : j = i * 3 + 1
        · subst z1; rw [if_neg (by omega)]; rw [if_pos ⟨rfl, by omega⟩]; omega
        by_cases z0 : j = i * 3
        · subst z0; rw [if_neg (by omega)]; rw [if_neg (by omega)]; rw [if_pos ⟨rfl, by omega⟩]; omega
        rw [if_neg (by omega), if_neg (by omega), if_neg (by omega)]
        exact HL.out j (by omega)⟩
      case measure => simp [intOf]; omega
    · obtain rfl : i = n := by omega
      go_wp2
      go_ret
      exact ⟨rfl, ⟨l', own, fun j hj => HL.out j (by have := own.len; omega)⟩, hO⟩
set_option maxHeartbeats 4000000 in
set_option maxRecDepth 100000 in
theorem heldGateS_b (a : Option Addr) (n c : Nat) (l : List Int) (k0 : Int) (w : World) (h : Flat 3 w a n c l) (hu : UpFrom k0 l) (h0 : 0 ≤ k0) (h1 : k0 + 3 * (n : Int) ≤ 4000000000000000000) :
    Calls Try.prog 47 #[.slice a n c, .int .i64 k0] w fun e w' => e = .returned (.int .i64 (k0 + 3 * (n : Int))) ∧ Below w.heap.size w w' := by
  have hn := h.le
  have HU := Lib.hid hu
  clear hu
  go_enter Try.func47, Try.ntmps47
  go_wp2
  go_loop [1, 5] (fun u v => ∃ i : Nat, i ≤ n ∧ u = .int .i64 (k0 + 3 * (i : Int)) ∧ v = .int .i64 i) (fun _ v => n - (intOf v).toNat)
  case atStart => exact ⟨0, Nat.zero_le _, by simp, rfl⟩
  case round =>
    obtain ⟨i, hk, rfl, rfl⟩ := hrel
    by_cases hlt : i < n
    · obtain ⟨g, o, rfl, hc⟩ := h.at (by omega)
      have hl := h.len
      have c0 : w.cell? ⟨g, o + i * 3, none⟩ = some (.int .i64 (k0 + 3 * (i : Int))) := by
        have := hc (i * 3) (by omega)
        rw [HU.out (i * 3) (by omega)] at this
        rw [show (k0 + 3 * (i : Int) : Int) = k0 + ((i * 3 : Nat) : Int) by omega]
        simpa only [Nat.add_assoc] using this
      have b0 : ((k0 + 3 * (i : Int) != k0 + 3 * (i : Int)) : Bool) = false := by simp
      have c1 : w.cell? ⟨g, o + i * 3 + 1, none⟩ = some (.int .i64 (k0 + 3 * (i : Int) + 1)) := by
        have := hc (i * 3 + 1) (by omega)
        rw [HU.out (i * 3 + 1) (by omega)] at this
        rw [show (k0 + 3 * (i : Int) + 1 : Int) = k0 + ((i * 3 + 1 : Nat) : Int) by omega]
        simpa only [Nat.add_assoc] using this
      have b1 : ((k0 + 3 * (i : Int) + 1 != k0 + 3 * (i : Int) + 1) : Bool) = false := by simp
      have c2 : w.cell? ⟨g, o + i * 3 + 2, none⟩ = some (.int .i64 (k0 + 3 * (i : Int) + 1 + 1)) := by
        have := hc (i * 3 + 2) (by omega)
        rw [HU.out (i * 3 + 2) (by omega)] at this
        rw [show (k0 + 3 * (i : Int) + 1 + 1 : Int) = k0 + ((i * 3 + 2 : Nat) : Int) by omega]
        simpa only [Nat.add_assoc] using this
      have b2 : ((k0 + 3 * (i : Int) + 1 + 1 != k0 + 3 * (i : Int) + 1 + 1) : Bool) = false := by simp
      clear hc hl
      go_wp2
      go_round
      case rel => exact ⟨i + 1, by omega, v_int (by omega), by go_num⟩
      case measure => simp [intOf]; omega
    · obtain rfl : i = n := by omega
      go_wp2
      go_ret
      exact ⟨rfl, Below.refl _ _⟩
end Go.Proofs.Ytkbhigdciokfkaa
