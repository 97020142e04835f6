/- Bits that are shared both ways; the law over them. -/
import Derived.Test.YtkpnncpgdiboaaaAreAll
import Derived.Test.YtkpnncpgdiboaaaGate
namespace Go.Proofs.Ytkpnncpgdiboaaa
open Go.RowKit

/-- Exclusive-or of Go's ints. -/
def xorI (a b : Int) : Int := bits BinOp.xor IntKind.i64 a b
theorem xorI_bit {a b : Int} (ha : a = 0 ∨ a = 1) (hb : b = 0 ∨ b = 1) : xorI a b = 0 ∨ xorI a b = 1 := by
  rcases ha with rfl | rfl <;> rcases hb with rfl | rfl
  · exact Or.inl (by decide +kernel)
  · exact Or.inr (by decide +kernel)
  · exact Or.inr (by decide +kernel)
  · exact Or.inl (by decide +kernel)
def dbB (key i : Int) (k : Nat) : Int := (bitsI [key, i, 24] 2).getD k 0
def dbN (p key i : Int) : Int := numI [key, i, 25] p
theorem dbB_bit (key i : Int) (k : Nat) (h : k < 2) : dbB key i k = 0 ∨ dbB key i k = 1 := bitsI_bit _ _ _ h
theorem bitsI_two (key i : Int) : bitsI [key, i, 24] 2 = [dbB key i 0, dbB key i 1] := rfl
/-- The bit pair and the pair of a double bit. -/
def db1 (key i : Int) : List Int := [dbB key i 1, xorI (dbB key i 0) (dbB key i 1)]
def db2 (p key i : Int) : List Int := [dbN p key i, (dbB key i 0 - dbN p key i) % p]
theorem Own.lit2 (w : World) (b : Nat) (x y : Int) (hb : b ≤ w.heap.size) : Own (w.alloc (.cells #[.int .i64 x, .int .i64 y] 3)) b (some ⟨w.heap.size, 0, none⟩) 2 2 [x, y] := Own.lit w b [x, y] hb (by simp [maxLen])
/-- Two literals laid one behind the other. -/
theorem two_lits {w0 w : World} {B : Nat} (x y u v : Int) (hB : B ≤ w.heap.size) (hb : Below B w0 w) :
    Own ((w.alloc (.cells #[.int .i64 x, .int .i64 y] 3)).alloc (.cells #[.int .i64 u, .int .i64 v] 3)).drew B (some ⟨w.heap.size, 0, none⟩) 2 2 [x, y] ∧
    Own ((w.alloc (.cells #[.int .i64 x, .int .i64 y] 3)).alloc (.cells #[.int .i64 u, .int .i64 v] 3)).drew B (some ⟨w.heap.size + 1, 0, none⟩) 2 2 [u, v] ∧
    Apart (some ⟨w.heap.size, 0, none⟩) 2 (some ⟨w.heap.size + 1, 0, none⟩) 2 ∧
    Below B w0 ((w.alloc (.cells #[.int .i64 x, .int .i64 y] 3)).alloc (.cells #[.int .i64 u, .int .i64 v] 3)).drew := by
  refine ⟨((Own.lit2 w B x y hB).alloc _).drew, ?_, ?_, ((hb.alloc hB _).alloc (by simp; omega) _).drew⟩
  · have := Own.lit2 (w.alloc (.cells #[.int .i64 x, .int .i64 y] 3)) B u v (by simp; omega)
    simp only [World.size_alloc] at this
    exact this.drew
  · intro p q _ _ hp hq
    cases hp; cases hq
    show w.heap.size ≠ w.heap.size + 1
    omega
set_option maxHeartbeats 4000000 in
set_option maxRecDepth 100000 in
theorem doubleBit_any (p key i : Int) (w : World) (hp : 1 ≤ p) (hp2 : p ≤ 1000) (hk : 0 ≤ key) (hk2 : key ≤ 1000000000) (hi : 0 ≤ i) (hi2 : i ≤ 1000000) :
    Calls Try.prog 55 #[.int .i64 p, .int .i64 key, .int .i64 i] w fun e w' => ∃ a c a' c', e = .returned (.tuple #[.slice a 2 c, .slice a' 2 c']) ∧ Own w' w.heap.size a 2 c (db1 key i) ∧ Own w' w.heap.size a' 2 c' (db2 p key i) ∧ Apart a c a' c' ∧ Below w.heap.size w w' := by
  have hb := bitsI_two key i
  have d0 := dbB_bit key i 0 (by omega)
  have d1 := dbB_bit key i 1 (by omega)
  have dn := numI_range [key, i, 25] p hp
  have H1 : Hid (db1 key i = [dbB key i 1, xorI (dbB key i 0) (dbB key i 1)]) := rfl
  have H2 : Hid (db2 p key i = [numI [key, i, 25] p, (dbB key i 0 - numI [key, i, 25] p) % p]) := rfl
  generalize dbB key i 0 = b0 at *
  generalize dbB key i 1 = b1 at *
  have r0 : 0 ≤ b0 := by omega
  have r1 : b0 ≤ 1 := by omega
  obtain ⟨dn1, dn2⟩ := dn
  have HB := Lib.hid hb
  clear hb d0 d1
  go_enter Try.func55, Try.ntmps55
  go_wp2_with fail
  refine (bitsFrom_any _ _ _ [key, i, 24] 2 _ (Ints.lit _ [key, i, 24] _ (by simp [maxLen])) (by simp) (WB.cons (by omega) (WB.two (by omega) (by omega))) (by omega) (by omega)).mono ?_; rintro e w1 ⟨a1, c1, rfl, o1, u1⟩
  have v1 := below_a1 u1
  have o1' : Own w1 w.heap.size a1 2 c1 [b0, b1] := by rw [← HB.out]; exact o1.lower (by simp)
  clear u1 o1
  go_wp2_with fail
  refine (numberFrom_any _ _ _ [key, i, 25] _ _ (Ints.lit _ [key, i, 25] _ (by simp [maxLen])) (by simp) (WB.cons (by omega) (WB.two (by omega) (by omega))) hp (by omega)).mono ?_; rintro e w2 ⟨rfl, u2⟩
  have v2 := below_a1 u2
  have o2 := o1'.below v2
  have b2 := v1.trans (v2.mono v1.size)
  clear u2 v1 v2 o1'
  obtain ⟨g, o, rfl, hcells⟩ := o2.ints.cells (by omega)
  have e0 : w2.cell? ⟨g, o, none⟩ = some (.int .i64 b0) := hcells 0 (by omega)
  have e1 : w2.cell? ⟨g, o + 1, none⟩ = some (.int .i64 b1) := hcells 1 (by omega)
  clear hcells o2
  generalize hnn : numI [key, i, 25] p = nn at *
  clear hnn
  have hx : bits BinOp.xor IntKind.i64 b0 b1 = xorI b0 b1 := rfl
  have s1 : IntKind.i64.wrap (b0 - nn) = b0 - nn := IntWalk.i64_in _ (by omega)
  go_wp2
  go_region_held3 (fun W => W.cell? ⟨g, o, none⟩ = some (.int .i64 b0) ∧ W.cell? ⟨g, o + 1, none⟩ = some (.int .i64 b1))
    (go_keep)
    (first | (go_at_call 83; refine (mod_same _ _ _ hp (by omega)).mono ?_; rintro e w' ⟨rfl, rfl⟩))
  all_goals go_wp2
  all_goals go_ret2
  all_goals first
    | (obtain ⟨t1, t2, t3, t4⟩ := two_lits b1 (xorI b0 b1) nn ((b0 - nn) % p) b2.size b2; exact ⟨_, _, _, _, rfl, by rw [H1.out]; exact t1, by rw [H2.out]; exact t2, t3, t4⟩)
    | (obtain ⟨t1, t2, t3, t4⟩ := two_lits nn ((b0 - nn) % p) b1 (xorI b0 b1) b2.size b2; exact ⟨_, _, _, _, rfl, by rw [H1.out]; exact t2, by rw [H2.out]; exact t1, t3.symm, t4⟩)
set_option maxHeartbeats 4000000 in
set_option maxRecDepth 100000 in
theorem cvDouble_any (p key i : Int) (w : World) (hp : 1 ≤ p) (hp2 : p ≤ 1000) (hk : 0 ≤ key) (hk2 : key ≤ 1000000000) (hi : 0 ≤ i) (hi2 : i ≤ 1000000) :
    Calls Try.prog 54 #[.int .i64 p, .int .i64 key, .int .i64 i] w fun e w' => ∃ a c a' c', e = .returned (.tuple #[.slice a 2 c, .slice a' 2 c']) ∧ Own w' w.heap.size a 2 c (db1 key i) ∧ Own w' w.heap.size a' 2 c' (db2 p key i) ∧ Apart a c a' c' ∧ Below w.heap.size w w' := by
  have hb := bitsI_two key i
  have d0 := dbB_bit key i 0 (by omega)
  have d1 := dbB_bit key i 1 (by omega)
  have dn := numI_range [key, i, 25] p hp
  have H1 : Hid (db1 key i = [dbB key i 1, xorI (dbB key i 0) (dbB key i 1)]) := rfl
  have H2 : Hid (db2 p key i = [numI [key, i, 25] p, (dbB key i 0 - numI [key, i, 25] p) % p]) := rfl
  generalize dbB key i 0 = b0 at *
  generalize dbB key i 1 = b1 at *
  have r0 : 0 ≤ b0 := by omega
  have r1 : b0 ≤ 1 := by omega
  obtain ⟨dn1, dn2⟩ := dn
  have HB := Lib.hid hb
  clear hb d0 d1
  go_enter Try.func54, Try.ntmps54
  go_wp2_with fail
  refine (dgBits_any _ _ _ [key, i, 24] 2 _ (Ints.lit _ [key, i, 24] _ (by simp [maxLen])) (by simp) (WB.cons (by omega) (WB.two (by omega) (by omega))) (by omega) (by omega)).mono ?_; rintro e w1 ⟨a1, c1, rfl, o1, u1⟩
  have v1 := below_a1 u1
  have o1' : Own w1 w.heap.size a1 2 c1 [b0, b1] := by rw [← HB.out]; exact o1.lower (by simp)
  clear u1 o1
  go_wp2_with fail
  refine (dgBelow_any _ _ _ [key, i, 25] _ _ (Ints.lit _ [key, i, 25] _ (by simp [maxLen])) (by simp) (WB.cons (by omega) (WB.two (by omega) (by omega))) hp (by omega)).mono ?_; rintro e w2 ⟨rfl, u2⟩
  have v2 := below_a1 u2
  have o2 := o1'.below v2
  have b2 := v1.trans (v2.mono v1.size)
  clear u2 v1 v2 o1'
  obtain ⟨g, o, rfl, hcells⟩ := o2.ints.cells (by omega)
  have e0 : w2.cell? ⟨g, o, none⟩ = some (.int .i64 b0) := hcells 0 (by omega)
  have e1 : w2.cell? ⟨g, o + 1, none⟩ = some (.int .i64 b1) := hcells 1 (by omega)
  clear hcells o2
  generalize hnn : numI [key, i, 25] p = nn at *
  clear hnn
  have hx : bits BinOp.xor IntKind.i64 b0 b1 = xorI b0 b1 := rfl
  have s1 : IntKind.i64.wrap (b0 - nn) = b0 - nn := IntWalk.i64_in _ (by omega)
  go_wp2
  go_region_held3 (fun W => W.cell? ⟨g, o, none⟩ = some (.int .i64 b0) ∧ W.cell? ⟨g, o + 1, none⟩ = some (.int .i64 b1))
    (go_keep)
    (first | (go_at_call 89; refine (btMod_same _ _ _ hp (by omega)).mono ?_; rintro e w' ⟨rfl, rfl⟩))
  all_goals go_wp2
  all_goals go_ret2
  all_goals first
    | (obtain ⟨t1, t2, t3, t4⟩ := two_lits b1 (xorI b0 b1) nn ((b0 - nn) % p) b2.size b2; exact ⟨_, _, _, _, rfl, by rw [H1.out]; exact t1, by rw [H2.out]; exact t2, t3, t4⟩)
    | (obtain ⟨t1, t2, t3, t4⟩ := two_lits nn ((b0 - nn) % p) b1 (xorI b0 b1) b2.size b2; exact ⟨_, _, _, _, rfl, by rw [H1.out]; exact t2, by rw [H2.out]; exact t1, t3.symm, t4⟩)
def cvB (p key k : Int) : Bool := isPr p && inB key 0 1000000000 && inB k 0 1000
theorem cvB_true {p key k : Int} (h : cvB p key k = true) : (2 ≤ p ∧ p ≤ 251) ∧ (0 ≤ key ∧ key ≤ 1000000000) ∧ 0 ≤ k ∧ k ≤ 1000 := by
  unfold cvB at h
  simp only [Bool.and_eq_true] at h
  exact ⟨isPr_range h.1.1, inB_true h.1.2, inB_true h.2⟩
def dbO1 (p key k : Int) : List Int := if cvB p key k then db1 key k else []
def dbO2 (p key k : Int) : List Int := if cvB p key k then db2 p key k else []
theorem dbO1_len (p key k : Int) : (dbO1 p key k).length ≤ 1000000 := by unfold dbO1; split <;> simp [db1]
theorem dbO2_len (p key k : Int) : (dbO2 p key k).length ≤ 1000000 := by unfold dbO2; split <;> simp [db2]
set_option maxHeartbeats 1000000 in
theorem cvKey_any (p key k : Int) (w : World) :
    Calls Try.prog 53 #[.int .i64 p, .int .i64 key, .int .i64 k] w fun e w' => e = .returned (.bool (cvB p key k)) ∧ ∃ m, w' = w.drewN m := by
  unfold cvB
  cases h1 : isPr p <;> cases h2 : inB key 0 1000000000
  all_goals
    simp only [Bool.false_and, Bool.and_false, Bool.true_and]
    go_enter Try.func53, Try.ntmps53
    go_wp2_with (first | (go_at_call 45; refine (fpGood_any _ _).mono ?_; rintro e w' ⟨rfl, m, rfl⟩) | (go_at_call 78; refine (otKey_any _ _).mono ?_; rintro e w' ⟨rfl, rfl⟩) | (go_at_call 47; refine (l1In_any _ _ _ _).mono ?_; rintro e w' ⟨rfl, rfl⟩))
    go_ret
    exact ⟨rfl, _, rfl⟩
set_option maxHeartbeats 2000000 in
theorem DoubleBit_any (p key k : Int) (w : World) :
    Calls Try.prog 20 #[.int .i64 p, .int .i64 key, .int .i64 k] w fun e w' => ∃ a n c a' n' c', e = .returned (.tuple #[.slice a n c, .slice a' n' c', .bool (cvB p key k)]) ∧ Own w' w.heap.size a n c (dbO1 p key k) ∧ Own w' w.heap.size a' n' c' (dbO2 p key k) ∧ Apart a c a' c' ∧ Below w.heap.size w w' := by
  unfold dbO1 dbO2 cvB
  cases h1 : isPr p
  · simp only [Bool.false_and, Bool.false_eq_true, if_false]
    go_enter Try.func20, Try.ntmps20
    go_wp2_with (first | (go_at_call 49; refine (IsPrime_any _ _).mono ?_; rintro e w' ⟨rfl, m, rfl⟩) | (go_at_call 50; refine (isKey_any _ _).mono ?_; rintro e w' ⟨rfl, rfl⟩) | (go_at_call 51; refine (within_any _ _ _ _).mono ?_; rintro e w' ⟨rfl, rfl⟩))
    go_ret3
    exact ⟨_, _, _, _, _, _, rfl, Own.nil0 _ _ _, Own.nil0 _ _ _, fun x y h _ _ _ => absurd h (by omega), below_of_drewN _⟩
  · cases h2 : inB key 0 1000000000
    · simp only [Bool.false_and, Bool.and_false, Bool.false_eq_true, if_false]
      go_enter Try.func20, Try.ntmps20
      go_wp2_with (first | (go_at_call 49; refine (IsPrime_any _ _).mono ?_; rintro e w' ⟨rfl, m, rfl⟩) | (go_at_call 50; refine (isKey_any _ _).mono ?_; rintro e w' ⟨rfl, rfl⟩) | (go_at_call 51; refine (within_any _ _ _ _).mono ?_; rintro e w' ⟨rfl, rfl⟩))
      go_ret3
      exact ⟨_, _, _, _, _, _, rfl, Own.nil0 _ _ _, Own.nil0 _ _ _, fun x y h _ _ _ => absurd h (by omega), below_of_drewN _⟩
    · cases h3 : inB k 0 1000
      · simp only [Bool.and_false, Bool.false_eq_true, if_false]
        go_enter Try.func20, Try.ntmps20
        go_wp2_with (first | (go_at_call 49; refine (IsPrime_any _ _).mono ?_; rintro e w' ⟨rfl, m, rfl⟩) | (go_at_call 50; refine (isKey_any _ _).mono ?_; rintro e w' ⟨rfl, rfl⟩) | (go_at_call 51; refine (within_any _ _ _ _).mono ?_; rintro e w' ⟨rfl, rfl⟩))
        go_ret3
        exact ⟨_, _, _, _, _, _, rfl, Own.nil0 _ _ _, Own.nil0 _ _ _, fun x y h _ _ _ => absurd h (by omega), below_of_drewN _⟩
      · simp only [Bool.and_self, if_true]
        obtain ⟨p1, p2⟩ := isPr_range h1
        obtain ⟨k1, k2⟩ := inB_true h2
        obtain ⟨j1, j2⟩ := inB_true h3
        go_enter Try.func20, Try.ntmps20
        go_wp2_with (first | (go_at_call 49; refine (IsPrime_any _ _).mono ?_; rintro e w' ⟨rfl, m, rfl⟩) | (go_at_call 50; refine (isKey_any _ _).mono ?_; rintro e w' ⟨rfl, rfl⟩) | (go_at_call 51; refine (within_any _ _ _ _).mono ?_; rintro e w' ⟨rfl, rfl⟩) | (go_at_call 55; refine (doubleBit_any _ _ _ _ (by omega) (by omega) k1 k2 j1 (by omega)).mono ?_; rintro e w' ⟨a1, c1, a2, c2, rfl, o1, o2, ap, u1⟩))
        go_ret3
        have q1 : Own _ w.heap.size a1 2 c1 _ := ‹Own _ _ a1 2 c1 _›
        have q2 : Own _ w.heap.size a2 2 c2 _ := ‹Own _ _ a2 2 c2 _›
        have u2 := ‹Below _ (w.drewN _) _›
        exact ⟨_, _, _, _, _, _, rfl, q1, q2, ‹Apart _ _ _ _›, (below_of_drewN _).trans (u2.mono (by simp))⟩
set_option maxHeartbeats 2000000 in
theorem spec_DoubleBit_any (p key k : Int) (w : World) :
    Calls Try.prog 19 #[.int .i64 p, .int .i64 key, .int .i64 k] w fun e w' => ∃ a n c a' n' c', e = .returned (.tuple #[.slice a n c, .slice a' n' c', .bool (cvB p key k)]) ∧ Own w' w.heap.size a n c (dbO1 p key k) ∧ Own w' w.heap.size a' n' c' (dbO2 p key k) ∧ Apart a c a' c' ∧ Below w.heap.size w w' := by
  unfold dbO1 dbO2
  cases h1 : cvB p key k
  · simp only [Bool.false_eq_true, if_false]
    go_enter Try.func19, Try.ntmps19
    go_wp2_with (first | (go_at_call 45; refine (fpGood_any _ _).mono ?_; rintro e w' ⟨rfl, m, rfl⟩) | (go_at_call 78; refine (otKey_any _ _).mono ?_; rintro e w' ⟨rfl, rfl⟩) | (go_at_call 47; refine (l1In_any _ _ _ _).mono ?_; rintro e w' ⟨rfl, rfl⟩) | (go_at_call 53; refine (cvKey_any _ _ _ _).mono ?_; rintro e w' ⟨rfl, m, rfl⟩))
    go_ret3
    exact ⟨_, _, _, _, _, _, rfl, Own.nil0 _ _ _, Own.nil0 _ _ _, fun x y h _ _ _ => absurd h (by omega), below_of_drewN _⟩
  · simp only [if_true]
    obtain ⟨⟨p1, p2⟩, ⟨k1, k2⟩, j1, j2⟩ := cvB_true h1
    go_enter Try.func19, Try.ntmps19
    go_wp2_with (first | (go_at_call 45; refine (fpGood_any _ _).mono ?_; rintro e w' ⟨rfl, m, rfl⟩) | (go_at_call 78; refine (otKey_any _ _).mono ?_; rintro e w' ⟨rfl, rfl⟩) | (go_at_call 47; refine (l1In_any _ _ _ _).mono ?_; rintro e w' ⟨rfl, rfl⟩) | (go_at_call 53; refine (cvKey_any _ _ _ _).mono ?_; rintro e w' ⟨rfl, m, rfl⟩) | (go_at_call 54; refine (cvDouble_any _ _ _ _ (by omega) (by omega) k1 k2 j1 (by omega)).mono ?_; rintro e w' ⟨a1, c1, a2, c2, rfl, o1, o2, ap, u1⟩))
    go_ret3
    have q1 : Own _ w.heap.size a1 2 c1 _ := ‹Own _ _ a1 2 c1 _›
    have q2 : Own _ w.heap.size a2 2 c2 _ := ‹Own _ _ a2 2 c2 _›
    have u2 := ‹Below _ (w.drewN _) _›
    exact ⟨_, _, _, _, _, _, rfl, q1, q2, ‹Apart _ _ _ _›, (below_of_drewN _).trans (u2.mono (by simp))⟩
set_option maxHeartbeats 2000000 in
set_option maxRecDepth 100000 in
theorem FnExactDoubleBit_walk (a0 : Int) (a1 : Int) (a2 : Int) (w : World) (_w0 : -9223372036854775808 ≤ a0 ∧ a0 ≤ 9223372036854775807) (_w1 : -9223372036854775808 ≤ a1 ∧ a1 ≤ 9223372036854775807) (_w2 : -9223372036854775808 ≤ a2 ∧ a2 ≤ 9223372036854775807) :
    Calls Try.prog 4 #[.int .i64 a0, .int .i64 a1, .int .i64 a2] w fun e w' => e = .returned (.bool true) ∧ Below w.heap.size w w' := by
  go_enter Try.func4, Try.ntmps4
  go_wp2_with fail
  refine (spec_DoubleBit_any _ _ _ _ ).mono ?_
  rintro e w1' ⟨r_a0, r_n0, r_c0, r_a1, r_n1, r_c1, rfl, r0, r1, ap_r01, u1⟩
  have V1 := u1
  clear u1
  clear ap_r01
  have VB_g0 := V1.size
  have VB_g1 := V1.size
  go_wp2_with fail
  refine (DoubleBit_any _ _ _ _ ).mono ?_
  rintro e w2' ⟨g_a0, g_n0, g_c0, g_a1, g_n1, g_c1, rfl, g0, g1, ap_g01, u2⟩
  have Dr0_g0 := r0.apart g0 (Nat.le_refl _)
  have Dr1_g0 := r1.apart g0 (Nat.le_refl _)
  have Dr0_g1 := r0.apart g1 (Nat.le_refl _)
  have Dr1_g1 := r1.apart g1 (Nat.le_refl _)
  replace r0 := r0.below u2
  replace r1 := r1.below u2
  have V2 : Below w.heap.size w w2' := V1.trans (u2.mono V1.size)
  clear V1
  clear u2
  go_wp2_with fail
  refine (eqIntS_same _ _ _ _ _ _ _ _ g0.ints r0.ints).mono ?_
  rintro e w3' ⟨rfl, q3⟩
  have u3 := below_of_quiet q3
  clear q3
  replace r0 := r0.below u3
  replace r1 := r1.below u3
  replace g0 := g0.below u3
  replace g1 := g1.below u3
  have V3 : Below w.heap.size w w3' := V2.trans (u3.mono V2.size)
  clear V2
  clear u3
  go_wp2_with fail
  refine (eqIntS_same _ _ _ _ _ _ _ _ g1.ints r1.ints).mono ?_
  rintro e w4' ⟨rfl, q4⟩
  have u4 := below_of_quiet q4
  clear q4
  replace r0 := r0.below u4
  replace r1 := r1.below u4
  replace g0 := g0.below u4
  replace g1 := g1.below u4
  have V4 : Below w.heap.size w w4' := V3.trans (u4.mono V3.size)
  clear V3
  clear u4
  have hlg0 : g_n0 ≤ 1000000 := by rw [g0.len]; exact dbO1_len a0 a1 a2
  have hlg1 : g_n1 ≤ 1000000 := by rw [g1.len]; exact dbO2_len a0 a1 a2
  go_wp2_with fail
  refine (markIntS_any _ _ _ _ _ _ _ g0 (by omega) (by have := hlg0; omega)).mono ?_
  rintro e w5' ⟨rfl, ⟨Lg0, mg0, Ug0⟩, G5⟩
  have HUg0 := Lib.hid Ug0
  clear Ug0
  replace r0 := r0.grown G5 Dr0_g0
  replace r1 := r1.grown G5 Dr1_g0
  replace g1 := g1.grown G5 ap_g01.symm
  have u5 : Below w.heap.size w4' w5' := below_grownBy G5 V4.size (fun x hc hx => Nat.le_trans VB_g0 (mg0.range x hc hx).1)
  have V5 : Below w.heap.size w w5' := V4.trans u5
  clear V4 u5 G5 g0
  have g0 := mg0
  clear mg0
  go_wp2_with fail
  refine (markIntS_any _ _ _ _ _ _ _ g1 (by omega) (by have := hlg1; omega)).mono ?_
  rintro e w6' ⟨rfl, ⟨Lg1, mg1, Ug1⟩, G6⟩
  have HUg1 := Lib.hid Ug1
  clear Ug1
  replace r0 := r0.grown G6 Dr0_g1
  replace r1 := r1.grown G6 Dr1_g1
  replace g0 := g0.grown G6 ap_g01
  have u6 : Below w.heap.size w5' w6' := below_grownBy G6 V5.size (fun x hc hx => Nat.le_trans VB_g1 (mg1.range x hc hx).1)
  have V6 : Below w.heap.size w w6' := V5.trans u6
  clear V5 u6 G6 g1
  have g1 := mg1
  clear mg1
  go_wp2_with fail
  refine (heldIntS_any _ _ _ _ _ _ g0.ints HUg0.out (by omega) (by have := hlg0; omega)).mono ?_
  rintro e w7' ⟨rfl, q7⟩
  have u7 := below_of_quiet q7
  clear q7
  replace r0 := r0.below u7
  replace r1 := r1.below u7
  replace g0 := g0.below u7
  replace g1 := g1.below u7
  have V7 : Below w.heap.size w w7' := V6.trans (u7.mono V6.size)
  clear V6
  clear u7
  go_wp2_with fail
  refine (heldIntS_any _ _ _ _ _ _ g1.ints HUg1.out (by omega) (by have := hlg1; omega)).mono ?_
  rintro e w8' ⟨rfl, q8⟩
  have u8 := below_of_quiet q8
  clear q8
  replace r0 := r0.below u8
  replace r1 := r1.below u8
  replace g0 := g0.below u8
  replace g1 := g1.below u8
  have V8 : Below w.heap.size w w8' := V7.trans (u8.mono V7.size)
  clear V7
  clear u8
  go_wp2_with fail
  refine (DoubleBit_any _ _ _ _ ).mono ?_
  rintro e w9' ⟨h_a0, h_n0, h_c0, h_a1, h_n1, h_c1, rfl, h0, h1, ap_h01, u9⟩
  replace r0 := r0.below u9
  replace r1 := r1.below u9
  replace g0 := g0.below u9
  replace g1 := g1.below u9
  have V9 : Below w.heap.size w w9' := V8.trans (u9.mono V8.size)
  clear V8
  clear u9
  clear ap_h01
  go_wp2_with fail
  refine (eqIntS_same _ _ _ _ _ _ _ _ h0.ints r0.ints).mono ?_
  rintro e w10' ⟨rfl, q10⟩
  have u10 := below_of_quiet q10
  clear q10
  replace r0 := r0.below u10
  replace r1 := r1.below u10
  replace g0 := g0.below u10
  replace g1 := g1.below u10
  replace h0 := h0.below u10
  replace h1 := h1.below u10
  have V10 : Below w.heap.size w w10' := V9.trans (u10.mono V9.size)
  clear V9
  clear u10
  go_wp2_with fail
  refine (eqIntS_same _ _ _ _ _ _ _ _ h1.ints r1.ints).mono ?_
  rintro e w11' ⟨rfl, q11⟩
  have u11 := below_of_quiet q11
  clear q11
  replace r0 := r0.below u11
  replace r1 := r1.below u11
  replace g0 := g0.below u11
  replace g1 := g1.below u11
  replace h0 := h0.below u11
  replace h1 := h1.below u11
  have V11 : Below w.heap.size w w11' := V10.trans (u11.mono V10.size)
  clear V10
  clear u11
  go_wp2_with fail
  refine (heldIntS_any _ _ _ _ _ _ g0.ints HUg0.out (by omega) (by have := hlg0; omega)).mono ?_
  rintro e w12' ⟨rfl, q12⟩
  have u12 := below_of_quiet q12
  clear q12
  replace r0 := r0.below u12
  replace r1 := r1.below u12
  replace g0 := g0.below u12
  replace g1 := g1.below u12
  replace h0 := h0.below u12
  replace h1 := h1.below u12
  have V12 : Below w.heap.size w w12' := V11.trans (u12.mono V11.size)
  clear V11
  clear u12
  go_wp2_with fail
  refine (heldIntS_any _ _ _ _ _ _ g1.ints HUg1.out (by omega) (by have := hlg1; omega)).mono ?_
  rintro e w13' ⟨rfl, q13⟩
  have u13 := below_of_quiet q13
  clear q13
  replace r0 := r0.below u13
  replace r1 := r1.below u13
  replace g0 := g0.below u13
  replace g1 := g1.below u13
  replace h0 := h0.below u13
  replace h1 := h1.below u13
  have V13 : Below w.heap.size w w13' := V12.trans (u13.mono V12.size)
  clear V12
  clear u13
  go_wp2
  go_ret
  exact ⟨rfl, V13⟩
end Go.Proofs.Ytkpnncpgdiboaaa
