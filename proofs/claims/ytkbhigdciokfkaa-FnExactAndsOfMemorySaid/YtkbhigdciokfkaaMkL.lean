/- Lists of wires and bits. -/
import Derived.Test.YtkbhigdciokfkaaMkG
namespace Go.Proofs.Ytkbhigdciokfkaa
open Go.RowKit
theorem bits_and_i64_nat (a b : Nat) (ha : a < 9223372036854775808) (hb : b < 9223372036854775808) : bits BinOp.and IntKind.i64 (a : Int) (b : Int) = ((a &&& b : Nat) : Int) := by
  have hx : a &&& b < 2 ^ 63 := Nat.and_lt_two_pow _ (by omega)
  have h1 : (BitVec.ofInt 64 (a : Int)).toNat = a := by
    rw [BitVec.ofInt_natCast, BitVec.toNat_ofNat]; exact Nat.mod_eq_of_lt (by omega)
  have h2 : (BitVec.ofInt 64 (b : Int)).toNat = b := by
    rw [BitVec.ofInt_natCast, BitVec.toNat_ofNat]; exact Nat.mod_eq_of_lt (by omega)
  show IntKind.i64.wrap ((BitVec.ofInt 64 (a : Int) &&& BitVec.ofInt 64 (b : Int)).toNat : Int) = _
  rw [BitVec.toNat_and, h1, h2]
  exact IntWalk.i64_in _ (by omega)
/-- 'x & 1'. -/
theorem and_one_i64 (x : Int) (h : 0 ≤ x) (h1 : x ≤ 9223372036854775807) : bits BinOp.and IntKind.i64 x 1 = x % 2 := by
  have e := bits_and_i64_nat x.toNat 1 (by omega) (by omega)
  rw [Nat.and_one_is_mod, Int.toNat_of_nonneg h] at e
  exact e.trans (by omega)
theorem shr_rng (x : Int) (k : Nat) (h : 0 ≤ x) (h1 : x ≤ 1000000000) : 0 ≤ x / 2 ^ k ∧ x / 2 ^ k ≤ 1000000000 := by
  have hp : (0 : Int) < 2 ^ k := Int.pow_pos (by decide)
  exact ⟨Int.ediv_nonneg h (by omega), Int.le_trans (Int.ediv_le_self _ h) h1⟩
theorem shr_next (x : Int) (k : Nat) : x / 2 ^ k / 2 = x / 2 ^ (k + 1) := by rw [Int.ediv_ediv_of_nonneg (Int.le_of_lt (Int.pow_pos (by decide))), Int.pow_succ]
set_option maxHeartbeats 2000000 in
theorem span_any (x : Int) (n : Nat) (w : World) (hx : -1000000 ≤ x ∧ x ≤ 1000000) (hn : n ≤ 1000000) :
    Calls Try.prog 60 #[.int .i64 x, .int .i64 n] w fun e w' => ∃ a c, e = .returned (.slice a n c) ∧ Own w' w.heap.size a n c (spL x n) ∧ Below w.heap.size w w' := by
  go_enter Try.func60, Try.ntmps60
  go_wp2
  have own0 : Own (w.alloc (.cells #[] 3)) w.heap.size (some ⟨w.heap.size, 0, none⟩) 0 0 (spL x 0) := Own.nil0 _ _ _
  have bel0 : Below w.heap.size w (w.alloc (.cells #[] 3)) := (Below.refl _ _).alloc (Nat.le_refl _) _
  go_loopw [5, 9] (fun u v wr => ∃ k : Nat, k ≤ n ∧ v = .int .i64 k ∧ Below w.heap.size w wr ∧ ∃ a1 c1, u = .slice a1 k c1 ∧ Own wr w.heap.size a1 k c1 (spL x k)) (fun _ v _ => n - (intOf v).toNat)
  case atStart => exact ⟨0, by omega, rfl, bel0, _, _, rfl, own0⟩
  case round =>
    obtain ⟨k, hk, rfl, hbel, a1, c1, rfl, own⟩ := hrel
    by_cases hlt : k < n
    · have HS := Lib.hid (spL_succ x k)
      go_wp2_with (at_builtin; refine wpList_appI _ rfl _ _ rfl w.heap.size a1 k c1 (spL x k) rfl (own.alloc _) _ 1 1 [x + (k : Int)] rfl (Ints.lit1 _ _ _) (by omega) (by have := hbel.size; simp; omega) ?_)
      intro a5 c5 w3 o5 u5 _
      have b3 := (hbel.alloc hbel.size (.cells #[.int .i64 (x + (k : Int))] 3)).trans u5
      clear u5 hbel own
      go_wp2
      go_roundw
      case rel => exact ⟨k + 1, by omega, by go_num, b3, a5, c5, rfl, by rw [HS.out]; exact o5⟩
      case measure => simp [intOf]; omega
    · obtain rfl : k = n := by omega
      go_wp2
      go_ret
      exact ⟨a1, c1, rfl, own, hbel⟩
set_option maxHeartbeats 2000000 in
theorem gdRange_any (x : Int) (n : Nat) (w : World) (hx : -1000000 ≤ x ∧ x ≤ 1000000) (hn : n ≤ 1000000) :
    Calls Try.prog 84 #[.int .i64 x, .int .i64 n] w fun e w' => ∃ a c, e = .returned (.slice a n c) ∧ Own w' w.heap.size a n c (spL x n) ∧ Below w.heap.size w w' := by
  go_enter Try.func84, Try.ntmps84
  go_wp2
  have own0 : Own w w.heap.size none 0 0 (spL x 0) := Own.nil0 _ _ _
  have bel0 : Below w.heap.size w w := Below.refl _ _
  go_loopw [5, 6] (fun u v wr => ∃ k : Nat, k ≤ n ∧ v = .int .i64 k ∧ Below w.heap.size w wr ∧ ∃ a1 c1, u = .slice a1 k c1 ∧ Own wr w.heap.size a1 k c1 (spL x k)) (fun _ v _ => n - (intOf v).toNat)
  case atStart => exact ⟨0, by omega, rfl, bel0, _, _, rfl, own0⟩
  case round =>
    obtain ⟨k, hk, rfl, hbel, a1, c1, rfl, own⟩ := hrel
    by_cases hlt : k < n
    · have HS := Lib.hid (spL_succ x k)
      go_wp2_with (at_builtin; refine wpList_appI _ rfl _ _ rfl w.heap.size a1 k c1 (spL x k) rfl (own.alloc _) _ 1 1 [x + (k : Int)] rfl (Ints.lit1 _ _ _) (by omega) (by have := hbel.size; simp; omega) ?_)
      intro a5 c5 w3 o5 u5 _
      have b3 := (hbel.alloc hbel.size (.cells #[.int .i64 (x + (k : Int))] 3)).trans u5
      clear u5 hbel own
      go_wp2
      go_roundw
      case rel => exact ⟨k + 1, by omega, by go_num, b3, a5, c5, rfl, by rw [HS.out]; exact o5⟩
      case measure => simp [intOf]; omega
    · obtain rfl : k = n := by omega
      go_wp2
      go_ret
      exact ⟨a1, c1, rfl, own, hbel⟩
set_option maxHeartbeats 2000000 in
theorem bitsOf_any (x : Int) (n : Nat) (w : World) (hx : 0 ≤ x ∧ x ≤ 1000000000) (hn : n ≤ 60) :
    Calls Try.prog 73 #[.int .i64 x, .int .i64 n] w fun e w' => ∃ a c, e = .returned (.slice a n c) ∧ Own w' w.heap.size a n c (btL x n) ∧ Below w.heap.size w w' := by
  go_enter Try.func73, Try.ntmps73
  go_wp2
  have own0 : Own (w.alloc (.cells #[] 3)) w.heap.size (some ⟨w.heap.size, 0, none⟩) 0 0 (btL x 0) := Own.nil0 _ _ _
  have bel0 : Below w.heap.size w (w.alloc (.cells #[] 3)) := (Below.refl _ _).alloc (Nat.le_refl _) _
  go_loopw [5, 9] (fun u v wr => ∃ k : Nat, k ≤ n ∧ v = .int .i64 k ∧ Below w.heap.size w wr ∧ ∃ a1 c1, u = .slice a1 k c1 ∧ Own wr w.heap.size a1 k c1 (btL x k)) (fun _ v _ => n - (intOf v).toNat)
  case atStart => exact ⟨0, by omega, rfl, bel0, _, _, rfl, own0⟩
  case round =>
    obtain ⟨k, hk, rfl, hbel, a1, c1, rfl, own⟩ := hrel
    by_cases hlt : k < n
    · have HS := Lib.hid (btL_succ x k)
      have t2 : IntKind.u64.wrap (k : Int) = (k : Int) := IntWalk.u64_in _ (by omega)
      have hk64 : (k : Int) < 64 := by omega
      obtain ⟨r0, r1⟩ := shr_rng x k (by omega) (by omega)
      obtain ⟨X, hX⟩ : ∃ X, X = x / 2 ^ k := ⟨_, rfl⟩
      have t3 : bits BinOp.and IntKind.i64 (x / 2 ^ k) 1 = X % 2 := by rw [hX]; exact and_one_i64 _ (by omega) (by omega)
      rw [← hX] at HS r0 r1
      clear hX
      go_wp2_with (at_builtin; refine wpList_appI _ rfl _ _ rfl w.heap.size a1 k c1 (btL x k) rfl (own.alloc _) _ 1 1 [X % 2] rfl (Ints.lit1 _ _ _) (by omega) (by have := hbel.size; simp; omega) ?_)
      intro a5 c5 w3 o5 u5 _
      have b3 := (hbel.alloc hbel.size (.cells #[.int .i64 (X % 2)] 3)).trans u5
      clear u5 hbel own
      go_wp2
      go_roundw
      case rel => exact ⟨k + 1, by omega, by go_num, b3, a5, c5, rfl, by rw [HS.out]; exact o5⟩
      case measure => simp [intOf]; omega
    · obtain rfl : k = n := by omega
      go_wp2
      go_ret
      exact ⟨a1, c1, rfl, own, hbel⟩
set_option maxHeartbeats 2000000 in
theorem btOf_any (x : Int) (n : Nat) (w : World) (hx : 0 ≤ x ∧ x ≤ 1000000000) (hn : n ≤ 60) :
    Calls Try.prog 67 #[.int .i64 x, .int .i64 n] w fun e w' => ∃ a c, e = .returned (.slice a n c) ∧ Own w' w.heap.size a n c (btL x n) ∧ Below w.heap.size w w' := by
  go_enter Try.func67, Try.ntmps67
  go_wp2
  have own0 : Own w w.heap.size none 0 0 (btL x 0) := Own.nil0 _ _ _
  have bel0 : Below w.heap.size w w := Below.refl _ _
  have hx0 : x / 2 ^ 0 = x := by simp
  go_loopw [5, 1, 0] (fun u v y wr => ∃ k : Nat, k ≤ n ∧ v = .int .i64 ((n - k : Nat) : Int) ∧ y = .int .i64 (x / 2 ^ k) ∧ Below w.heap.size w wr ∧ ∃ a1 c1, u = .slice a1 k c1 ∧ Own wr w.heap.size a1 k c1 (btL x k)) (fun _ v _ _ => (intOf v).toNat)
  case atStart => exact ⟨0, by omega, rfl, by rw [hx0], bel0, _, _, rfl, own0⟩
  case round =>
    obtain ⟨k, hk, rfl, rfl, hbel, a1, c1, rfl, own⟩ := hrel
    clear hx0 own0 bel0
    obtain ⟨r0, r1⟩ := shr_rng x k (by omega) (by omega)
    by_cases hlt : k < n
    · have HS := Lib.hid (btL_succ x k)
      have HN := Lib.hid (shr_next x k)
      obtain ⟨m, hm⟩ : ∃ m, n - k = m + 1 := ⟨n - k - 1, by omega⟩
      have HM := Lib.hid (show n - (k + 1) = m by omega)
      rw [hm]
      have hm60 : m ≤ 60 := by omega
      generalize x / 2 ^ k = X at *
      have t4 : X.tmod 2 = X % 2 := Int.tmod_eq_emod_of_nonneg r0
      have t5 : X.tdiv 2 = X / 2 := Int.tdiv_eq_ediv_of_nonneg r0
      clear hm
      go_wp2_with (at_builtin; refine wpList_appI _ rfl _ _ rfl w.heap.size a1 k c1 (btL x k) rfl (own.alloc _) _ 1 1 [X % 2] rfl (Ints.lit1 _ _ _) (by omega) (by have := hbel.size; simp; omega) ?_)
      intro a5 c5 w3 o5 u5 _
      have b3 := (hbel.alloc hbel.size (.cells #[.int .i64 (X % 2)] 3)).trans u5
      clear u5 hbel own
      go_wp2
      go_roundw
      case rel => exact ⟨k + 1, by omega, by rw [HM.out], v_int HN.out, b3, a5, c5, rfl, by rw [HS.out]; exact o5⟩
      case measure => simp [intOf]
    · obtain rfl : k = n := by omega
      rw [Nat.sub_self]
      go_wp2
      go_ret
      exact ⟨a1, c1, rfl, own, hbel⟩
end Go.Proofs.Ytkbhigdciokfkaa
