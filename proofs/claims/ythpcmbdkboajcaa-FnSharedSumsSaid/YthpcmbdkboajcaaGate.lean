/- The triple of a gate; the law over it. -/
import Derived.Test.YthpcmbdkboajcaaDigest
import Derived.Test.YthpcmbdkboajcaaField
namespace Go.Proofs.Ythpcmbdkboajcaa
open Go.RowKit

set_option maxHeartbeats 400000 in
theorem isKey_any (k : Int) (w : World) : Calls Try.prog 53 #[.int .i64 k] w fun e w' => e = .returned (.bool (inB k 0 1000000000)) ∧ w = w' := by
  go_enter Try.func53, Try.ntmps53
  go_wp2_with (go_at_call 54; refine (within_any _ _ _ _).mono ?_; rintro e w' ⟨rfl, rfl⟩)
  go_ret
  exact ⟨rfl, rfl⟩
set_option maxHeartbeats 400000 in
theorem shKey_any (k : Int) (w : World) : Calls Try.prog 56 #[.int .i64 k] w fun e w' => e = .returned (.bool (inB k 0 1000000000)) ∧ w = w' := by
  go_enter Try.func56, Try.ntmps56
  go_wp2_with (go_at_call 57; refine (l1In_any _ _ _ _).mono ?_; rintro e w' ⟨rfl, rfl⟩)
  go_ret
  exact ⟨rfl, rfl⟩
/-- The drawn numbers of a gate's triple. -/
def gtN (p key k i : Int) : Int := numI [key, k, i, 71] p
def gtP (p key k : Int) (m : Nat) : List Int := (List.range m).map fun (i : Nat) => gtN p key k i
theorem gtP_succ (p key k : Int) (m : Nat) : gtP p key k (m + 1) = gtP p key k m ++ [gtN p key k m] := by unfold gtP; rw [List.range_succ, List.map_append]; rfl
theorem gtP_five (p key k : Int) : gtP p key k 5 = [gtN p key k 0, gtN p key k 1, gtN p key k 2, gtN p key k 3, gtN p key k 4] := rfl
def gtZ (p key k : Int) : Int := ((gtN p key k 0 + gtN p key k 3) * (gtN p key k 1 + gtN p key k 4) - gtN p key k 2) % p
def gtL (p key k : Int) : List Int := [gtN p key k 0, gtN p key k 1, gtN p key k 2, gtN p key k 3, gtN p key k 4, gtZ p key k]
theorem gtN_range (p key k i : Int) (h : 1 ≤ p) : 0 ≤ gtN p key k i ∧ gtN p key k i ≤ p - 1 := numI_range _ _ h
set_option maxHeartbeats 2000000 in
set_option maxRecDepth 100000 in
theorem gateTriple_any (p key k : Int) (w : World) (hp : 1 ≤ p) (hp2 : p ≤ 1000) (hk : 0 ≤ key) (hk2 : key ≤ 1000000000) (hj : 0 ≤ k) (hj2 : k ≤ 1000000) :
    Calls Try.prog 55 #[.int .i64 p, .int .i64 key, .int .i64 k] w fun e w' => ∃ a c, e = .returned (.slice a 6 c) ∧ Own w' w.heap.size a 6 c (gtL p key k) ∧ Below w.heap.size w w' := by
  go_enter Try.func55, Try.ntmps55
  go_wp2
  have own0 : Own (w.alloc (.cells #[] 3)) w.heap.size (some ⟨w.heap.size, 0, none⟩) 0 0 (gtP p key k 0) := Own.nil0 _ _ _
  have bel0 : Below w.heap.size w (w.alloc (.cells #[] 3)) := (Below.refl _ _).alloc (Nat.le_refl _) _
  go_loopw [7, 10] (fun u v wr => ∃ m : Nat, m ≤ 5 ∧ v = .int .i64 m ∧ Below w.heap.size w wr ∧ ∃ a1 c1, u = .slice a1 m c1 ∧ Own wr w.heap.size a1 m c1 (gtP p key k m)) (fun _ v _ => 5 - (intOf v).toNat)
  case atStart => exact ⟨0, by omega, rfl, bel0, _, _, rfl, own0⟩
  case round =>
    obtain ⟨m, hm, rfl, hbel, a1, c1, rfl, own⟩ := hrel
    by_cases hlt : m < 5
    · have HS := Lib.hid (gtP_succ p key k m)
      go_wp2_with fail
      refine (numberFrom_any _ _ _ [key, k, (m : Int), 71] _ _ (Ints.lit _ [key, k, (m : Int), 71] _ (by simp [maxLen])) (by simp) (WB.cons (by omega) (WB.cons (by omega) (WB.two (by omega) (by omega)))) hp (by omega)).mono ?_; rintro e w1 ⟨rfl, u1⟩
      have v1 := below_a1 u1
      have own1 := own.below v1
      have b1 := hbel.trans (v1.mono hbel.size)
      clear u1 v1 own hbel
      go_wp2_with (at_builtin; refine wpList_appI _ rfl _ _ rfl w.heap.size a1 m c1 (gtP p key k m) rfl (own1.alloc _) _ 1 1 [numI [key, k, (m : Int), 71] p] rfl (Ints.lit1 _ _ _) (by omega) (by have := b1.size; simp; omega) ?_)
      intro a5 c5 w3 o5 u5 _
      have b3 := (b1.alloc b1.size (.cells #[.int .i64 (numI [key, k, (m : Int), 71] p)] 3)).trans u5
      clear u5 b1 own1
      go_wp2
      go_roundw
      case rel => exact ⟨m + 1, by omega, by go_num, b3, a5, c5, rfl, by rw [HS.out]; exact o5⟩
      case measure => simp [intOf]; omega
    · obtain rfl : m = 5 := by omega
      rw [gtP_five] at own
      have r0 := gtN_range p key k 0 hp
      have r1 := gtN_range p key k 1 hp
      have r2 := gtN_range p key k 2 hp
      have r3 := gtN_range p key k 3 hp
      have r4 := gtN_range p key k 4 hp
      have HZ0 : gtL p key k = [gtN p key k 0, gtN p key k 1, gtN p key k 2, gtN p key k 3, gtN p key k 4] ++ [((gtN p key k 0 + gtN p key k 3) * (gtN p key k 1 + gtN p key k 4) - gtN p key k 2) % p] := by unfold gtL gtZ; rfl
      have HZ := Lib.hid HZ0
      clear HZ0
      generalize gtN p key k 0 = x0 at *
      generalize gtN p key k 1 = x1 at *
      generalize gtN p key k 2 = x2 at *
      generalize gtN p key k 3 = x3 at *
      generalize gtN p key k 4 = x4 at *
      have pr1 : 0 ≤ (x0 + x3) * (x1 + x4) := Int.mul_nonneg (by omega) (by omega)
      have pr2 : (x0 + x3) * (x1 + x4) ≤ 2000 * 2000 := Int.mul_le_mul (by omega) (by omega) (by omega) (by omega)
      obtain ⟨g, o, rfl, hcells⟩ := own.ints.cells (by omega)
      have e0 : wr.cell? ⟨g, o, none⟩ = some (.int .i64 x0) := hcells 0 (by omega)
      have e1 : wr.cell? ⟨g, o + 1, none⟩ = some (.int .i64 x1) := hcells 1 (by omega)
      have e2 : wr.cell? ⟨g, o + 2, none⟩ = some (.int .i64 x2) := hcells 2 (by omega)
      have e3 : wr.cell? ⟨g, o + 3, none⟩ = some (.int .i64 x3) := hcells 3 (by omega)
      have e4 : wr.cell? ⟨g, o + 4, none⟩ = some (.int .i64 x4) := hcells 4 (by omega)
      clear hcells
      go_wp2
      have s1 : IntKind.i64.wrap (x0 + x3) = x0 + x3 := IntWalk.i64_in _ (by omega)
      have s2 : IntKind.i64.wrap (x1 + x4) = x1 + x4 := IntWalk.i64_in _ (by omega)
      have s3 : IntKind.i64.wrap ((x0 + x3) * (x1 + x4)) = (x0 + x3) * (x1 + x4) := IntWalk.i64_in _ (by omega)
      have s4 : IntKind.i64.wrap ((x0 + x3) * (x1 + x4) - x2) = (x0 + x3) * (x1 + x4) - x2 := IntWalk.i64_in _ (by omega)
      go_region_held3 (fun W => W.cell? ⟨g, o, none⟩ = some (.int .i64 x0) ∧ W.cell? ⟨g, o + 1, none⟩ = some (.int .i64 x1) ∧ W.cell? ⟨g, o + 2, none⟩ = some (.int .i64 x2) ∧ W.cell? ⟨g, o + 3, none⟩ = some (.int .i64 x3) ∧ W.cell? ⟨g, o + 4, none⟩ = some (.int .i64 x4))
        (first | go_keep | (have ho := hold.cellsAt; exact ⟨ho 0 (by omega), ho 1 (by omega), ho 2 (by omega), ho 3 (by omega), ho 4 (by omega)⟩))
        (first | (go_at_call 59; refine (mod_same _ _ _ hp (by omega)).mono ?_; rintro e w' ⟨rfl, rfl⟩) | (refine step_appI _ (by rfl) _ _ (by rfl) w.heap.size (some ⟨g, o, none⟩) 5 c1 [x0, x1, x2, x3, x4] (by rfl) (own.alloc _).drew _ 1 1 [((x0 + x3) * (x1 + x4) - x2) % p] (by rfl) (Ints.lit1 _ _ _).drew (by omega) (by have := hbel.size; simp; omega) ?_; intro a5 c5 w3 o5 u5 _ hold))
      go_wp2
      go_ret
      exact ⟨_, _, rfl, by rw [HZ.out]; exact o5, (hbel.alloc hbel.size (.cells #[.int .i64 (((x0 + x3) * (x1 + x4) - x2) % p)] 3)).drew.trans u5⟩
set_option maxHeartbeats 2000000 in
set_option maxRecDepth 100000 in
theorem smTriple_any (p key k : Int) (w : World) (hp : 1 ≤ p) (hp2 : p ≤ 1000) (hk : 0 ≤ key) (hk2 : key ≤ 1000000000) (hj : 0 ≤ k) (hj2 : k ≤ 1000000) :
    Calls Try.prog 42 #[.int .i64 p, .int .i64 key, .int .i64 k] w fun e w' => ∃ a c, e = .returned (.slice a 6 c) ∧ Own w' w.heap.size a 6 c (gtL p key k) ∧ Below w.heap.size w w' := by
  go_enter Try.func42, Try.ntmps42
  go_wp2
  have own0 : Own w w.heap.size none 0 0 (gtP p key k 0) := Own.nil0 _ _ _
  have bel0 := Below.refl w.heap.size w
  go_loopw [7, 8] (fun u v wr => ∃ m : Nat, m ≤ 5 ∧ v = .int .i64 m ∧ Below w.heap.size w wr ∧ ∃ a1 c1, u = .slice a1 m c1 ∧ Own wr w.heap.size a1 m c1 (gtP p key k m)) (fun _ v _ => 5 - (intOf v).toNat)
  case atStart => exact ⟨0, by omega, rfl, bel0, _, _, rfl, own0⟩
  case round =>
    obtain ⟨m, hm, rfl, hbel, a1, c1, rfl, own⟩ := hrel
    by_cases hlt : m < 5
    · have HS := Lib.hid (gtP_succ p key k m)
      go_wp2_with fail
      refine (dgBelow_any _ _ _ [key, k, (m : Int), 71] _ _ (Ints.lit _ [key, k, (m : Int), 71] _ (by simp [maxLen])) (by simp) (WB.cons (by omega) (WB.cons (by omega) (WB.two (by omega) (by omega)))) hp (by omega)).mono ?_; rintro e w1 ⟨rfl, u1⟩
      have v1 := below_a1 u1
      have own1 := own.below v1
      have b1 := hbel.trans (v1.mono hbel.size)
      clear u1 v1 own hbel
      go_wp2_with (at_builtin; refine wpList_appI _ rfl _ _ rfl w.heap.size a1 m c1 (gtP p key k m) rfl (own1.alloc _) _ 1 1 [numI [key, k, (m : Int), 71] p] rfl (Ints.lit1 _ _ _) (by omega) (by have := b1.size; simp; omega) ?_)
      intro a5 c5 w3 o5 u5 _
      have b3 := (b1.alloc b1.size (.cells #[.int .i64 (numI [key, k, (m : Int), 71] p)] 3)).trans u5
      clear u5 b1 own1
      go_wp2
      go_roundw
      case rel => exact ⟨m + 1, by omega, by go_num, b3, a5, c5, rfl, by rw [HS.out]; exact o5⟩
      case measure => simp [intOf]; omega
    · obtain rfl : m = 5 := by omega
      rw [gtP_five] at own
      have r0 := gtN_range p key k 0 hp
      have r1 := gtN_range p key k 1 hp
      have r2 := gtN_range p key k 2 hp
      have r3 := gtN_range p key k 3 hp
      have r4 := gtN_range p key k 4 hp
      have HZ0 : gtL p key k = [gtN p key k 0, gtN p key k 1, gtN p key k 2, gtN p key k 3, gtN p key k 4] ++ [((gtN p key k 0 + gtN p key k 3) * (gtN p key k 1 + gtN p key k 4) - gtN p key k 2) % p] := by unfold gtL gtZ; rfl
      have HZ := Lib.hid HZ0
      clear HZ0
      generalize gtN p key k 0 = x0 at *
      generalize gtN p key k 1 = x1 at *
      generalize gtN p key k 2 = x2 at *
      generalize gtN p key k 3 = x3 at *
      generalize gtN p key k 4 = x4 at *
      have pr1 : 0 ≤ (x0 + x3) * (x1 + x4) := Int.mul_nonneg (by omega) (by omega)
      have pr2 : (x0 + x3) * (x1 + x4) ≤ 2000 * 2000 := Int.mul_le_mul (by omega) (by omega) (by omega) (by omega)
      obtain ⟨g, o, rfl, hcells⟩ := own.ints.cells (by omega)
      have e0 : wr.cell? ⟨g, o, none⟩ = some (.int .i64 x0) := hcells 0 (by omega)
      have e1 : wr.cell? ⟨g, o + 1, none⟩ = some (.int .i64 x1) := hcells 1 (by omega)
      have e2 : wr.cell? ⟨g, o + 2, none⟩ = some (.int .i64 x2) := hcells 2 (by omega)
      have e3 : wr.cell? ⟨g, o + 3, none⟩ = some (.int .i64 x3) := hcells 3 (by omega)
      have e4 : wr.cell? ⟨g, o + 4, none⟩ = some (.int .i64 x4) := hcells 4 (by omega)
      clear hcells
      go_wp2
      go_quiet (fail)
      go_wp2_with fail
      refine (btMod_any _ _ _ hp (by omega)).mono ?_; rintro e w4 ⟨rfl, q4⟩
      have u4 := below_of_quiet q4
      clear q4
      have own4 := own.below ((below_of_drewN _).trans (u4.mono (by simp)))
      have v4 := (hbel.trans ((below_of_drewN _).mono hbel.size)).trans (u4.mono hbel.size)
      clear own hbel u4
      go_wp2_with (at_builtin; refine wpList_appI _ rfl _ _ rfl w.heap.size _ 5 c1 [x0, x1, x2, x3, x4] rfl (own4.alloc _) _ 1 1 [((x0 + x3) * (x1 + x4) - x2) % p] rfl (Ints.lit1 _ _ _) (by omega) (by have := v4.size; simp; omega) ?_)
      intro a5 c5 w3 o5 u5 _
      go_wp2
      go_ret
      exact ⟨_, _, rfl, by rw [HZ.out]; exact o5, (v4.alloc v4.size (.cells #[.int .i64 (((x0 + x3) * (x1 + x4) - x2) % p)] 3)).trans u5⟩
def gtB (p key k : Int) : Bool := isPr p && inB key 0 1000000000 && inB k 0 99
def gtO (p key k : Int) : List Int := if gtB p key k then gtL p key k else []
theorem gtO_len (p key k : Int) : (gtO p key k).length ≤ 1000000 := by unfold gtO; split <;> simp [gtL]
set_option maxHeartbeats 2000000 in
theorem GateTriple_any (p key k : Int) (w : World) :
    Calls Try.prog 12 #[.int .i64 p, .int .i64 key, .int .i64 k] w fun e w' => ∃ a n c, e = .returned (.tuple #[.slice a n c, .bool (gtB p key k)]) ∧ Own w' w.heap.size a n c (gtO p key k) ∧ Below w.heap.size w w' := by
  unfold gtO gtB
  cases h1 : isPr p
  · simp only [Bool.false_and, Bool.false_eq_true, if_false]
    go_enter Try.func12, Try.ntmps12
    go_wp2_with (first | (go_at_call 52; refine (IsPrime_any _ _).mono ?_; rintro e w' ⟨rfl, m, rfl⟩) | (go_at_call 53; refine (isKey_any _ _).mono ?_; rintro e w' ⟨rfl, rfl⟩) | (go_at_call 54; refine (within_any _ _ _ _).mono ?_; rintro e w' ⟨rfl, rfl⟩))
    go_ret2
    exact ⟨_, _, _, rfl, Own.nil0 _ _ _, below_of_drewN _⟩
  · cases h2 : inB key 0 1000000000
    · simp only [Bool.false_and, Bool.and_false, Bool.false_eq_true, if_false]
      go_enter Try.func12, Try.ntmps12
      go_wp2_with (first | (go_at_call 52; refine (IsPrime_any _ _).mono ?_; rintro e w' ⟨rfl, m, rfl⟩) | (go_at_call 53; refine (isKey_any _ _).mono ?_; rintro e w' ⟨rfl, rfl⟩) | (go_at_call 54; refine (within_any _ _ _ _).mono ?_; rintro e w' ⟨rfl, rfl⟩))
      go_ret2
      exact ⟨_, _, _, rfl, Own.nil0 _ _ _, below_of_drewN _⟩
    · cases h3 : inB k 0 99
      · simp only [Bool.and_false, Bool.false_eq_true, if_false]
        go_enter Try.func12, Try.ntmps12
        go_wp2_with (first | (go_at_call 52; refine (IsPrime_any _ _).mono ?_; rintro e w' ⟨rfl, m, rfl⟩) | (go_at_call 53; refine (isKey_any _ _).mono ?_; rintro e w' ⟨rfl, rfl⟩) | (go_at_call 54; refine (within_any _ _ _ _).mono ?_; rintro e w' ⟨rfl, rfl⟩))
        go_ret2
        exact ⟨_, _, _, rfl, Own.nil0 _ _ _, below_of_drewN _⟩
      · simp only [Bool.and_self, if_true]
        obtain ⟨p1, p2⟩ := isPr_range h1
        obtain ⟨k1, k2⟩ := inB_true h2
        obtain ⟨j1, j2⟩ := inB_true h3
        go_enter Try.func12, Try.ntmps12
        go_wp2_with (first | (go_at_call 52; refine (IsPrime_any _ _).mono ?_; rintro e w' ⟨rfl, m, rfl⟩) | (go_at_call 53; refine (isKey_any _ _).mono ?_; rintro e w' ⟨rfl, rfl⟩) | (go_at_call 54; refine (within_any _ _ _ _).mono ?_; rintro e w' ⟨rfl, rfl⟩) | (go_at_call 55; refine (gateTriple_any _ _ _ _ (by omega) (by omega) k1 k2 j1 (by omega)).mono ?_; rintro e w' ⟨a1, c1, rfl, o1, u1⟩))
        go_ret2
        have o2 : Own _ w.heap.size a1 6 c1 (gtL p key k) := ‹Own _ _ a1 6 c1 _›
        have u2 := ‹Below _ (w.drewN _) _›
        exact ⟨_, _, _, rfl, o2, (below_of_drewN _).trans (u2.mono (by simp))⟩
set_option maxHeartbeats 2000000 in
theorem spec_GateTriple_any (p key k : Int) (w : World) :
    Calls Try.prog 13 #[.int .i64 p, .int .i64 key, .int .i64 k] w fun e w' => ∃ a n c, e = .returned (.tuple #[.slice a n c, .bool (gtB p key k)]) ∧ Own w' w.heap.size a n c (gtO p key k) ∧ Below w.heap.size w w' := by
  unfold gtO gtB
  cases h1 : isPr p
  · simp only [Bool.false_and, Bool.false_eq_true, if_false]
    go_enter Try.func13, Try.ntmps13
    go_wp2_with (first | (go_at_call 40; refine (fpGood_any _ _).mono ?_; rintro e w' ⟨rfl, m, rfl⟩) | (go_at_call 56; refine (shKey_any _ _).mono ?_; rintro e w' ⟨rfl, rfl⟩) | (go_at_call 57; refine (l1In_any _ _ _ _).mono ?_; rintro e w' ⟨rfl, rfl⟩))
    go_ret2
    exact ⟨_, _, _, rfl, Own.nil0 _ _ _, below_of_drewN _⟩
  · cases h2 : inB key 0 1000000000
    · simp only [Bool.false_and, Bool.and_false, Bool.false_eq_true, if_false]
      go_enter Try.func13, Try.ntmps13
      go_wp2_with (first | (go_at_call 40; refine (fpGood_any _ _).mono ?_; rintro e w' ⟨rfl, m, rfl⟩) | (go_at_call 56; refine (shKey_any _ _).mono ?_; rintro e w' ⟨rfl, rfl⟩) | (go_at_call 57; refine (l1In_any _ _ _ _).mono ?_; rintro e w' ⟨rfl, rfl⟩))
      go_ret2
      exact ⟨_, _, _, rfl, Own.nil0 _ _ _, below_of_drewN _⟩
    · cases h3 : inB k 0 99
      · simp only [Bool.and_false, Bool.false_eq_true, if_false]
        go_enter Try.func13, Try.ntmps13
        go_wp2_with (first | (go_at_call 40; refine (fpGood_any _ _).mono ?_; rintro e w' ⟨rfl, m, rfl⟩) | (go_at_call 56; refine (shKey_any _ _).mono ?_; rintro e w' ⟨rfl, rfl⟩) | (go_at_call 57; refine (l1In_any _ _ _ _).mono ?_; rintro e w' ⟨rfl, rfl⟩))
        go_ret2
        exact ⟨_, _, _, rfl, Own.nil0 _ _ _, below_of_drewN _⟩
      · simp only [Bool.and_self, if_true]
        obtain ⟨p1, p2⟩ := isPr_range h1
        obtain ⟨k1, k2⟩ := inB_true h2
        obtain ⟨j1, j2⟩ := inB_true h3
        go_enter Try.func13, Try.ntmps13
        go_wp2_with (first | (go_at_call 40; refine (fpGood_any _ _).mono ?_; rintro e w' ⟨rfl, m, rfl⟩) | (go_at_call 56; refine (shKey_any _ _).mono ?_; rintro e w' ⟨rfl, rfl⟩) | (go_at_call 57; refine (l1In_any _ _ _ _).mono ?_; rintro e w' ⟨rfl, rfl⟩) | (go_at_call 42; refine (smTriple_any _ _ _ _ (by omega) (by omega) k1 k2 j1 (by omega)).mono ?_; rintro e w' ⟨a1, c1, rfl, o1, u1⟩))
        go_ret2
        have o2 : Own _ w.heap.size a1 6 c1 (gtL p key k) := ‹Own _ _ a1 6 c1 _›
        have u2 := ‹Below _ (w.drewN _) _›
        exact ⟨_, _, _, rfl, o2, (below_of_drewN _).trans (u2.mono (by simp))⟩
end Go.Proofs.Ythpcmbdkboajcaa
