/- BendMessage: the program's and the reference's. -/
import Derived.Test.YtkpnncpgdiboaaaBend
namespace Go.Proofs.Ytkpnncpgdiboaaa
open Go.RowKit

def bmB (p : Int) (l : List Int) (i k : Int) : Bool := elB p k && elsB p l && inB i 0 ((l.length : Int) - 1)
def bmS (p s : Int) (l : List Int) (i k : Int) : Int := if bmB p l i k then s else 0
def bmL (p : Int) (l : List Int) (i k : Int) : List Int := if bmB p l i k then bendI p l i.toNat k else []
theorem bmL_len (p : Int) (l : List Int) (i k : Int) : (bmL p l i k).length ≤ l.length := by
  unfold bmL
  split
  · simp [bendI]
  · simp
set_option maxHeartbeats 8000000 in
set_option maxRecDepth 100000 in
theorem BendMessage_any (p s0 s1 : Int) (a : Option Addr) (n c : Nat) (l : List Int) (i k : Int) (w : World) (h : Ints w a n c l) (hs : n ≤ 1048576) :
    Calls Try.prog 27 #[.int .i64 p, .agg #[.int .i64 s0, .int .i64 s1, .slice a n c], .int .i64 i, .int .i64 k] w fun e w' => ∃ b m d, e = .returned (.tuple #[.agg #[.int .i64 (bmS p s0 l i k), .int .i64 (bmS p s1 l i k), .slice b m d], .bool (bmB p l i k)]) ∧ Own w' w.heap.size b m d (bmL p l i k) ∧ Below w.heap.size w w' := by
  have V0 : Below w.heap.size w ((w.alloc (.cells #[.int .i64 s0, .int .i64 s1, .slice a n c] 36)).alloc (.cells #[.int .i64 0, .int .i64 0, .slice none 0 0] 36)) := ((Below.refl _ _).alloc (Nat.le_refl _) _).alloc (by simp) _
  have B0 : Blk ((w.alloc (.cells #[.int .i64 s0, .int .i64 s1, .slice a n c] 36)).alloc (.cells #[.int .i64 0, .int .i64 0, .slice none 0 0] 36)) w.heap.size 36 #[.int .i64 s0, .int .i64 s1, .slice a n c] := (Blk.new w _ _).alloc _
  have R0 : Blk ((w.alloc (.cells #[.int .i64 s0, .int .i64 s1, .slice a n c] 36)).alloc (.cells #[.int .i64 0, .int .i64 0, .slice none 0 0] 36)) (w.heap.size + 1) 36 #[.int .i64 0, .int .i64 0, .slice none 0 0] := by simpa using (Blk.new (w.alloc (.cells #[.int .i64 s0, .int .i64 s1, .slice a n c] 36)) 36 #[.int .i64 0, .int .i64 0, .slice none 0 0])
  have S0 : w.heap.size + 2 ≤ ((w.alloc (.cells #[.int .i64 s0, .int .i64 s1, .slice a n c] 36)).alloc (.cells #[.int .i64 0, .int .i64 0, .slice none 0 0] 36)).heap.size := by simp
  have hn := h.le
  unfold bmS bmL bmB
  rw [← h.len]
  cases h1 : elB p k
  · skip
    simp only [Bool.false_and, Bool.false_eq_true, if_false]
    go_enter Try.func27, Try.ntmps27
    go_wp2_with fail
    generalize ((w.alloc (.cells #[.int .i64 s0, .int .i64 s1, .slice a n c] 36)).alloc (.cells #[.int .i64 0, .int .i64 0, .slice none 0 0] 36)) = w0 at *
    refine (isElement_any _ _ _).mono ?_; rintro e w1 ⟨rfl, hq⟩; have u := below_of_quiet hq; clear hq
    rw [h1]
    have V1 := V0.trans (u.mono V0.size)
    have B1 := B0.below u
    have R1 := R0.below u
    have S1 : w.heap.size + 2 ≤ w1.heap.size := Nat.le_trans S0 u.size
    clear u V0 B0 R0 S0
    have r0 : w1.cell? ⟨w.heap.size + 1, 0, none⟩ = some (.int .i64 0) := R1.cell 0
    have q0 : w1.frozen? ⟨w.heap.size + 1, 0, none⟩ = false := R1.frozen 0
    have r1 : w1.cell? ⟨w.heap.size + 1, 1, none⟩ = some (.int .i64 0) := R1.cell 1
    have q1 : w1.frozen? ⟨w.heap.size + 1, 1, none⟩ = false := R1.frozen 1
    have r2 : w1.cell? ⟨w.heap.size + 1, 2, none⟩ = some (.slice none 0 0) := R1.cell 2
    have q2 : w1.frozen? ⟨w.heap.size + 1, 2, none⟩ = false := R1.frozen 2
    go_wp2
    have G := (((Only.refl [w.heap.size + 1] w1).setCell ⟨w.heap.size + 1, 0, none⟩ (.int .i64 0) (by simp)).setCell ⟨w.heap.size + 1, 1, none⟩ (.int .i64 0) (by simp)).setCell ⟨w.heap.size + 1, 2, none⟩ (.slice none 0 0) (by simp)
    exact bodyPost_ret (v := .tuple #[.agg #[.int .i64 0, .int .i64 0, .slice none 0 0], .bool false]) (by simp [results, Try.results27, go_sem, r0, r1, r2]) rfl ⟨_, _, _, rfl, Own.nil0 _ _ _, V1.trans (G.below V1.size (by simp))⟩
  cases h2 : elsB p l
  · skip
    simp only [Bool.false_and, Bool.and_false, Bool.false_eq_true, if_false]
    go_enter Try.func27, Try.ntmps27
    go_wp2_with fail
    generalize ((w.alloc (.cells #[.int .i64 s0, .int .i64 s1, .slice a n c] 36)).alloc (.cells #[.int .i64 0, .int .i64 0, .slice none 0 0] 36)) = w0 at *
    refine (isElement_any _ _ _).mono ?_; rintro e w1 ⟨rfl, hq⟩; have u := below_of_quiet hq; clear hq
    rw [h1]
    have V1 := V0.trans (u.mono V0.size)
    have B1 := B0.below u
    have R1 := R0.below u
    have S1 : w.heap.size + 2 ≤ w1.heap.size := Nat.le_trans S0 u.size
    clear u V0 B0 R0 S0
    have x0 : w1.cell? ⟨w.heap.size, 0, none⟩ = some (.int .i64 s0) := B1.cell 0
    have x1 : w1.cell? ⟨w.heap.size, 1, none⟩ = some (.int .i64 s1) := B1.cell 1
    have x2 : w1.cell? ⟨w.heap.size, 2, none⟩ = some (.slice a n c) := B1.cell 2
    go_wp2_with fail
    refine (areElements_any _ _ _ _ l _ (h.below V1)).mono ?_; rintro e w2 ⟨rfl, u⟩
    rw [h2]
    clear x0 x1 x2
    have V2 := V1.trans (u.mono V1.size)
    have B2 := B1.below u
    have R2 := R1.below u
    have S2 : w.heap.size + 2 ≤ w2.heap.size := Nat.le_trans S1 u.size
    clear u V1 B1 R1 S1
    have r0 : w2.cell? ⟨w.heap.size + 1, 0, none⟩ = some (.int .i64 0) := R2.cell 0
    have q0 : w2.frozen? ⟨w.heap.size + 1, 0, none⟩ = false := R2.frozen 0
    have r1 : w2.cell? ⟨w.heap.size + 1, 1, none⟩ = some (.int .i64 0) := R2.cell 1
    have q1 : w2.frozen? ⟨w.heap.size + 1, 1, none⟩ = false := R2.frozen 1
    have r2 : w2.cell? ⟨w.heap.size + 1, 2, none⟩ = some (.slice none 0 0) := R2.cell 2
    have q2 : w2.frozen? ⟨w.heap.size + 1, 2, none⟩ = false := R2.frozen 2
    go_wp2
    have G := (((Only.refl [w.heap.size + 1] w2).setCell ⟨w.heap.size + 1, 0, none⟩ (.int .i64 0) (by simp)).setCell ⟨w.heap.size + 1, 1, none⟩ (.int .i64 0) (by simp)).setCell ⟨w.heap.size + 1, 2, none⟩ (.slice none 0 0) (by simp)
    exact bodyPost_ret (v := .tuple #[.agg #[.int .i64 0, .int .i64 0, .slice none 0 0], .bool false]) (by simp [results, Try.results27, go_sem, r0, r1, r2]) rfl ⟨_, _, _, rfl, Own.nil0 _ _ _, V2.trans (G.below V2.size (by simp))⟩
  cases h3 : inB i 0 ((n : Int) - 1)
  · skip
    simp only [Bool.and_false, Bool.false_eq_true, if_false]
    go_enter Try.func27, Try.ntmps27
    go_wp2_with fail
    generalize ((w.alloc (.cells #[.int .i64 s0, .int .i64 s1, .slice a n c] 36)).alloc (.cells #[.int .i64 0, .int .i64 0, .slice none 0 0] 36)) = w0 at *
    refine (isElement_any _ _ _).mono ?_; rintro e w1 ⟨rfl, hq⟩; have u := below_of_quiet hq; clear hq
    rw [h1]
    have V1 := V0.trans (u.mono V0.size)
    have B1 := B0.below u
    have R1 := R0.below u
    have S1 : w.heap.size + 2 ≤ w1.heap.size := Nat.le_trans S0 u.size
    clear u V0 B0 R0 S0
    have x0 : w1.cell? ⟨w.heap.size, 0, none⟩ = some (.int .i64 s0) := B1.cell 0
    have x1 : w1.cell? ⟨w.heap.size, 1, none⟩ = some (.int .i64 s1) := B1.cell 1
    have x2 : w1.cell? ⟨w.heap.size, 2, none⟩ = some (.slice a n c) := B1.cell 2
    go_wp2_with fail
    refine (areElements_any _ _ _ _ l _ (h.below V1)).mono ?_; rintro e w2 ⟨rfl, u⟩
    rw [h2]
    clear x0 x1 x2
    have V2 := V1.trans (u.mono V1.size)
    have B2 := B1.below u
    have R2 := R1.below u
    have S2 : w.heap.size + 2 ≤ w2.heap.size := Nat.le_trans S1 u.size
    clear u V1 B1 R1 S1
    have x0 : w2.cell? ⟨w.heap.size, 0, none⟩ = some (.int .i64 s0) := B2.cell 0
    have x1 : w2.cell? ⟨w.heap.size, 1, none⟩ = some (.int .i64 s1) := B2.cell 1
    have x2 : w2.cell? ⟨w.heap.size, 2, none⟩ = some (.slice a n c) := B2.cell 2
    go_wp2_with fail
    refine (within_any _ _ _ _).mono ?_; rintro e w' ⟨rfl, rfl⟩
    rw [h3]
    clear x0 x1 x2
    have r0 : w2.cell? ⟨w.heap.size + 1, 0, none⟩ = some (.int .i64 0) := R2.cell 0
    have q0 : w2.frozen? ⟨w.heap.size + 1, 0, none⟩ = false := R2.frozen 0
    have r1 : w2.cell? ⟨w.heap.size + 1, 1, none⟩ = some (.int .i64 0) := R2.cell 1
    have q1 : w2.frozen? ⟨w.heap.size + 1, 1, none⟩ = false := R2.frozen 1
    have r2 : w2.cell? ⟨w.heap.size + 1, 2, none⟩ = some (.slice none 0 0) := R2.cell 2
    have q2 : w2.frozen? ⟨w.heap.size + 1, 2, none⟩ = false := R2.frozen 2
    go_wp2
    have G := (((Only.refl [w.heap.size + 1] w2).setCell ⟨w.heap.size + 1, 0, none⟩ (.int .i64 0) (by simp)).setCell ⟨w.heap.size + 1, 1, none⟩ (.int .i64 0) (by simp)).setCell ⟨w.heap.size + 1, 2, none⟩ (.slice none 0 0) (by simp)
    exact bodyPost_ret (v := .tuple #[.agg #[.int .i64 0, .int .i64 0, .slice none 0 0], .bool false]) (by simp [results, Try.results27, go_sem, r0, r1, r2]) rfl ⟨_, _, _, rfl, Own.nil0 _ _ _, V2.trans (G.below V2.size (by simp))⟩
  simp only [Bool.and_self, if_true]
  obtain ⟨hp, p1, p2, _⟩ := elsB_true h2
  have hl := (allB_iff ..).1 (elsB_true h2).2.2.2
  obtain ⟨k1, k2⟩ : 0 ≤ k ∧ k ≤ p - 1 := (elB_true h1).2.2.2
  obtain ⟨i1, i2⟩ := inB_true h3
  obtain ⟨j, rfl⟩ : ∃ j : Nat, i = j := ⟨i.toNat, by omega⟩
  rw [Int.toNat_natCast]
  have HL := Lib.hid hl
  clear hl
  go_enter Try.func27, Try.ntmps27
  go_wp2_with fail
  generalize ((w.alloc (.cells #[.int .i64 s0, .int .i64 s1, .slice a n c] 36)).alloc (.cells #[.int .i64 0, .int .i64 0, .slice none 0 0] 36)) = w0 at *
  refine (isElement_any _ _ _).mono ?_; rintro e w1 ⟨rfl, hq⟩; have u := below_of_quiet hq; clear hq
  rw [h1]
  have V1 := V0.trans (u.mono V0.size)
  have B1 := B0.below u
  have R1 := R0.below u
  have S1 : w.heap.size + 2 ≤ w1.heap.size := Nat.le_trans S0 u.size
  clear u V0 B0 R0 S0
  have x0 : w1.cell? ⟨w.heap.size, 0, none⟩ = some (.int .i64 s0) := B1.cell 0
  have x1 : w1.cell? ⟨w.heap.size, 1, none⟩ = some (.int .i64 s1) := B1.cell 1
  have x2 : w1.cell? ⟨w.heap.size, 2, none⟩ = some (.slice a n c) := B1.cell 2
  go_wp2_with fail
  refine (areElements_any _ _ _ _ l _ (h.below V1)).mono ?_; rintro e w2 ⟨rfl, u⟩
  rw [h2]
  clear x0 x1 x2
  have V2 := V1.trans (u.mono V1.size)
  have B2 := B1.below u
  have R2 := R1.below u
  have S2 : w.heap.size + 2 ≤ w2.heap.size := Nat.le_trans S1 u.size
  clear u V1 B1 R1 S1
  have x0 : w2.cell? ⟨w.heap.size, 0, none⟩ = some (.int .i64 s0) := B2.cell 0
  have x1 : w2.cell? ⟨w.heap.size, 1, none⟩ = some (.int .i64 s1) := B2.cell 1
  have x2 : w2.cell? ⟨w.heap.size, 2, none⟩ = some (.slice a n c) := B2.cell 2
  go_wp2_with fail
  refine (within_any _ _ _ _).mono ?_; rintro e w' ⟨rfl, rfl⟩
  rw [h3]
  go_wp2_with fail
  refine (bend_any p s0 s1 _ _ _ l j k _ (h.below V2) hs (by omega) (by omega) HL.out (by omega) k1 k2).mono ?_; rintro e w5 ⟨b, d, rfl, o5, u⟩
  clear x0 x1 x2
  have V5 := V2.trans (u.mono V2.size)
  have R5 := R2.below u
  have S5 := S2
  have Q := Lib.hid o5.feet
  have r0 : w5.cell? ⟨w.heap.size + 1, 0, none⟩ = some (.int .i64 0) := R5.cell 0
  have q0 : w5.frozen? ⟨w.heap.size + 1, 0, none⟩ = false := R5.frozen 0
  have r1 : w5.cell? ⟨w.heap.size + 1, 1, none⟩ = some (.int .i64 0) := R5.cell 1
  have q1 : w5.frozen? ⟨w.heap.size + 1, 1, none⟩ = false := R5.frozen 1
  have r2 : w5.cell? ⟨w.heap.size + 1, 2, none⟩ = some (.slice none 0 0) := R5.cell 2
  have q2 : w5.frozen? ⟨w.heap.size + 1, 2, none⟩ = false := R5.frozen 2
  go_wp2
  have G := (((Only.refl [w.heap.size + 1] w5).setCell ⟨w.heap.size + 1, 0, none⟩ (.int .i64 s0) (by simp)).setCell ⟨w.heap.size + 1, 1, none⟩ (.int .i64 s1) (by simp)).setCell ⟨w.heap.size + 1, 2, none⟩ (.slice b n d) (by simp)
  exact bodyPost_ret (v := .tuple #[.agg #[.int .i64 s0, .int .i64 s1, .slice b n d], .bool true]) (by simp [results, Try.results27, go_sem, r0, r1, r2]) rfl ⟨_, _, _, rfl, (o5.only G (fun q hq hq' => by have := Q.out q hq; simp at hq'; omega)).lower (by omega), V5.trans (G.below V5.size (by simp))⟩
set_option maxHeartbeats 8000000 in
set_option maxRecDepth 100000 in
theorem spec_BendMessage_any (p s0 s1 : Int) (a : Option Addr) (n c : Nat) (l : List Int) (i k : Int) (w : World) (h : Ints w a n c l) (hs : n ≤ 1048576) :
    Calls Try.prog 25 #[.int .i64 p, .agg #[.int .i64 s0, .int .i64 s1, .slice a n c], .int .i64 i, .int .i64 k] w fun e w' => ∃ b m d, e = .returned (.tuple #[.agg #[.int .i64 (bmS p s0 l i k), .int .i64 (bmS p s1 l i k), .slice b m d], .bool (bmB p l i k)]) ∧ Own w' w.heap.size b m d (bmL p l i k) ∧ Below w.heap.size w w' := by
  have V0 : Below w.heap.size w ((w.alloc (.cells #[.int .i64 s0, .int .i64 s1, .slice a n c] 36)).alloc (.cells #[.int .i64 0, .int .i64 0, .slice none 0 0] 36)) := ((Below.refl _ _).alloc (Nat.le_refl _) _).alloc (by simp) _
  have B0 : Blk ((w.alloc (.cells #[.int .i64 s0, .int .i64 s1, .slice a n c] 36)).alloc (.cells #[.int .i64 0, .int .i64 0, .slice none 0 0] 36)) w.heap.size 36 #[.int .i64 s0, .int .i64 s1, .slice a n c] := (Blk.new w _ _).alloc _
  have R0 : Blk ((w.alloc (.cells #[.int .i64 s0, .int .i64 s1, .slice a n c] 36)).alloc (.cells #[.int .i64 0, .int .i64 0, .slice none 0 0] 36)) (w.heap.size + 1) 36 #[.int .i64 0, .int .i64 0, .slice none 0 0] := by simpa using (Blk.new (w.alloc (.cells #[.int .i64 s0, .int .i64 s1, .slice a n c] 36)) 36 #[.int .i64 0, .int .i64 0, .slice none 0 0])
  have S0 : w.heap.size + 2 ≤ ((w.alloc (.cells #[.int .i64 s0, .int .i64 s1, .slice a n c] 36)).alloc (.cells #[.int .i64 0, .int .i64 0, .slice none 0 0] 36)).heap.size := by simp
  have hn := h.le
  unfold bmS bmL bmB
  rw [← h.len]
  cases h2 : elsB p l
  · skip
    simp only [Bool.false_and, Bool.and_false, Bool.false_eq_true, if_false]
    go_enter Try.func25, Try.ntmps25
    go_wp2_with fail
    generalize ((w.alloc (.cells #[.int .i64 s0, .int .i64 s1, .slice a n c] 36)).alloc (.cells #[.int .i64 0, .int .i64 0, .slice none 0 0] 36)) = w0 at *
    refine (fpIn_any _ _ _ _ l _ (h.below V0)).mono ?_; rintro e w1 ⟨rfl, q⟩
    have u := below_of_quiet q
    clear q
    rw [h2]
    have V1 := V0.trans (u.mono V0.size)
    have B1 := B0.below u
    have R1 := R0.below u
    have S1 : w.heap.size + 2 ≤ w1.heap.size := Nat.le_trans S0 u.size
    clear u V0 B0 R0 S0
    have r0 : w1.cell? ⟨w.heap.size + 1, 0, none⟩ = some (.int .i64 0) := R1.cell 0
    have q0 : w1.frozen? ⟨w.heap.size + 1, 0, none⟩ = false := R1.frozen 0
    have r1 : w1.cell? ⟨w.heap.size + 1, 1, none⟩ = some (.int .i64 0) := R1.cell 1
    have q1 : w1.frozen? ⟨w.heap.size + 1, 1, none⟩ = false := R1.frozen 1
    have r2 : w1.cell? ⟨w.heap.size + 1, 2, none⟩ = some (.slice none 0 0) := R1.cell 2
    have q2 : w1.frozen? ⟨w.heap.size + 1, 2, none⟩ = false := R1.frozen 2
    go_wp2
    have G := (((Only.refl [w.heap.size + 1] w1).setCell ⟨w.heap.size + 1, 0, none⟩ (.int .i64 0) (by simp)).setCell ⟨w.heap.size + 1, 1, none⟩ (.int .i64 0) (by simp)).setCell ⟨w.heap.size + 1, 2, none⟩ (.slice none 0 0) (by simp)
    exact bodyPost_ret (v := .tuple #[.agg #[.int .i64 0, .int .i64 0, .slice none 0 0], .bool false]) (by simp [results, Try.results25, go_sem, r0, r1, r2]) rfl ⟨_, _, _, rfl, Own.nil0 _ _ _, V1.trans (G.below V1.size (by simp))⟩
  cases h3 : inB i 0 ((n : Int) - 1)
  · skip
    simp only [Bool.and_false, Bool.false_eq_true, if_false]
    go_enter Try.func25, Try.ntmps25
    go_wp2_with fail
    generalize ((w.alloc (.cells #[.int .i64 s0, .int .i64 s1, .slice a n c] 36)).alloc (.cells #[.int .i64 0, .int .i64 0, .slice none 0 0] 36)) = w0 at *
    refine (fpIn_any _ _ _ _ l _ (h.below V0)).mono ?_; rintro e w1 ⟨rfl, q⟩
    have u := below_of_quiet q
    clear q
    rw [h2]
    have V1 := V0.trans (u.mono V0.size)
    have B1 := B0.below u
    have R1 := R0.below u
    have S1 : w.heap.size + 2 ≤ w1.heap.size := Nat.le_trans S0 u.size
    clear u V0 B0 R0 S0
    have x0 : w1.cell? ⟨w.heap.size, 0, none⟩ = some (.int .i64 s0) := B1.cell 0
    have x1 : w1.cell? ⟨w.heap.size, 1, none⟩ = some (.int .i64 s1) := B1.cell 1
    have x2 : w1.cell? ⟨w.heap.size, 2, none⟩ = some (.slice a n c) := B1.cell 2
    go_wp2_with fail
    refine (l1In_any _ _ _ _).mono ?_; rintro e w' ⟨rfl, rfl⟩
    rw [h3]
    clear x0 x1 x2
    have r0 : w1.cell? ⟨w.heap.size + 1, 0, none⟩ = some (.int .i64 0) := R1.cell 0
    have q0 : w1.frozen? ⟨w.heap.size + 1, 0, none⟩ = false := R1.frozen 0
    have r1 : w1.cell? ⟨w.heap.size + 1, 1, none⟩ = some (.int .i64 0) := R1.cell 1
    have q1 : w1.frozen? ⟨w.heap.size + 1, 1, none⟩ = false := R1.frozen 1
    have r2 : w1.cell? ⟨w.heap.size + 1, 2, none⟩ = some (.slice none 0 0) := R1.cell 2
    have q2 : w1.frozen? ⟨w.heap.size + 1, 2, none⟩ = false := R1.frozen 2
    go_wp2
    have G := (((Only.refl [w.heap.size + 1] w1).setCell ⟨w.heap.size + 1, 0, none⟩ (.int .i64 0) (by simp)).setCell ⟨w.heap.size + 1, 1, none⟩ (.int .i64 0) (by simp)).setCell ⟨w.heap.size + 1, 2, none⟩ (.slice none 0 0) (by simp)
    exact bodyPost_ret (v := .tuple #[.agg #[.int .i64 0, .int .i64 0, .slice none 0 0], .bool false]) (by simp [results, Try.results25, go_sem, r0, r1, r2]) rfl ⟨_, _, _, rfl, Own.nil0 _ _ _, V1.trans (G.below V1.size (by simp))⟩
  obtain ⟨hp, p1, p2, _⟩ := elsB_true h2
  have HE : Hid (elB p k = inB k 0 (p - 1)) := Lib.hid (by unfold elB; rw [hp, Bool.true_and]; rfl)
  cases h1 : elB p k
  · skip
    have h1' : inB k 0 (p - 1) = false := HE.out.symm.trans h1
    simp only [Bool.false_and, Bool.false_eq_true, if_false]
    go_enter Try.func25, Try.ntmps25
    go_wp2_with fail
    generalize ((w.alloc (.cells #[.int .i64 s0, .int .i64 s1, .slice a n c] 36)).alloc (.cells #[.int .i64 0, .int .i64 0, .slice none 0 0] 36)) = w0 at *
    refine (fpIn_any _ _ _ _ l _ (h.below V0)).mono ?_; rintro e w1 ⟨rfl, q⟩
    have u := below_of_quiet q
    clear q
    rw [h2]
    have V1 := V0.trans (u.mono V0.size)
    have B1 := B0.below u
    have R1 := R0.below u
    have S1 : w.heap.size + 2 ≤ w1.heap.size := Nat.le_trans S0 u.size
    clear u V0 B0 R0 S0
    have x0 : w1.cell? ⟨w.heap.size, 0, none⟩ = some (.int .i64 s0) := B1.cell 0
    have x1 : w1.cell? ⟨w.heap.size, 1, none⟩ = some (.int .i64 s1) := B1.cell 1
    have x2 : w1.cell? ⟨w.heap.size, 2, none⟩ = some (.slice a n c) := B1.cell 2
    go_wp2_with fail
    refine (l1In_any _ _ _ _).mono ?_; rintro e w' ⟨rfl, rfl⟩
    rw [h3]
    go_wp2_with fail
    refine (l1In_any _ _ _ _).mono ?_; rintro e w' ⟨rfl, rfl⟩
    rw [h1']
    clear x0 x1 x2
    have r0 : w1.cell? ⟨w.heap.size + 1, 0, none⟩ = some (.int .i64 0) := R1.cell 0
    have q0 : w1.frozen? ⟨w.heap.size + 1, 0, none⟩ = false := R1.frozen 0
    have r1 : w1.cell? ⟨w.heap.size + 1, 1, none⟩ = some (.int .i64 0) := R1.cell 1
    have q1 : w1.frozen? ⟨w.heap.size + 1, 1, none⟩ = false := R1.frozen 1
    have r2 : w1.cell? ⟨w.heap.size + 1, 2, none⟩ = some (.slice none 0 0) := R1.cell 2
    have q2 : w1.frozen? ⟨w.heap.size + 1, 2, none⟩ = false := R1.frozen 2
    go_wp2
    have G := (((Only.refl [w.heap.size + 1] w1).setCell ⟨w.heap.size + 1, 0, none⟩ (.int .i64 0) (by simp)).setCell ⟨w.heap.size + 1, 1, none⟩ (.int .i64 0) (by simp)).setCell ⟨w.heap.size + 1, 2, none⟩ (.slice none 0 0) (by simp)
    exact bodyPost_ret (v := .tuple #[.agg #[.int .i64 0, .int .i64 0, .slice none 0 0], .bool false]) (by simp [results, Try.results25, go_sem, r0, r1, r2]) rfl ⟨_, _, _, rfl, Own.nil0 _ _ _, V1.trans (G.below V1.size (by simp))⟩
  simp only [Bool.and_self, if_true]
  have h1' : inB k 0 (p - 1) = true := HE.out.symm.trans h1
  have hl := (allB_iff ..).1 (elsB_true h2).2.2.2
  obtain ⟨k1, k2⟩ : 0 ≤ k ∧ k ≤ p - 1 := (elB_true h1).2.2.2
  obtain ⟨i1, i2⟩ := inB_true h3
  obtain ⟨j, rfl⟩ : ∃ j : Nat, i = j := ⟨i.toNat, by omega⟩
  rw [Int.toNat_natCast]
  have HL := Lib.hid hl
  clear hl
  go_enter Try.func25, Try.ntmps25
  go_wp2_with fail
  generalize ((w.alloc (.cells #[.int .i64 s0, .int .i64 s1, .slice a n c] 36)).alloc (.cells #[.int .i64 0, .int .i64 0, .slice none 0 0] 36)) = w0 at *
  refine (fpIn_any _ _ _ _ l _ (h.below V0)).mono ?_; rintro e w1 ⟨rfl, q⟩
  have u := below_of_quiet q
  clear q
  rw [h2]
  have V1 := V0.trans (u.mono V0.size)
  have B1 := B0.below u
  have R1 := R0.below u
  have S1 : w.heap.size + 2 ≤ w1.heap.size := Nat.le_trans S0 u.size
  clear u V0 B0 R0 S0
  have x0 : w1.cell? ⟨w.heap.size, 0, none⟩ = some (.int .i64 s0) := B1.cell 0
  have x1 : w1.cell? ⟨w.heap.size, 1, none⟩ = some (.int .i64 s1) := B1.cell 1
  have x2 : w1.cell? ⟨w.heap.size, 2, none⟩ = some (.slice a n c) := B1.cell 2
  go_wp2_with fail
  refine (l1In_any _ _ _ _).mono ?_; rintro e w' ⟨rfl, rfl⟩
  rw [h3]
  go_wp2_with fail
  refine (l1In_any _ _ _ _).mono ?_; rintro e w' ⟨rfl, rfl⟩
  rw [h1']
  go_wp2_with fail
  refine (ptBend_any p s0 s1 _ _ _ l j k _ (h.below V1) hs (by omega) (by omega) HL.out (by omega) k1 k2).mono ?_; rintro e w5 ⟨b, d, rfl, o5, u⟩
  clear x0 x1 x2
  have V5 := V1.trans (u.mono V1.size)
  have R5 := R1.below u
  have S5 := S1
  have Q := Lib.hid o5.feet
  have r0 : w5.cell? ⟨w.heap.size + 1, 0, none⟩ = some (.int .i64 0) := R5.cell 0
  have q0 : w5.frozen? ⟨w.heap.size + 1, 0, none⟩ = false := R5.frozen 0
  have r1 : w5.cell? ⟨w.heap.size + 1, 1, none⟩ = some (.int .i64 0) := R5.cell 1
  have q1 : w5.frozen? ⟨w.heap.size + 1, 1, none⟩ = false := R5.frozen 1
  have r2 : w5.cell? ⟨w.heap.size + 1, 2, none⟩ = some (.slice none 0 0) := R5.cell 2
  have q2 : w5.frozen? ⟨w.heap.size + 1, 2, none⟩ = false := R5.frozen 2
  go_wp2
  have G := (((Only.refl [w.heap.size + 1] w5).setCell ⟨w.heap.size + 1, 0, none⟩ (.int .i64 s0) (by simp)).setCell ⟨w.heap.size + 1, 1, none⟩ (.int .i64 s1) (by simp)).setCell ⟨w.heap.size + 1, 2, none⟩ (.slice b n d) (by simp)
  exact bodyPost_ret (v := .tuple #[.agg #[.int .i64 s0, .int .i64 s1, .slice b n d], .bool true]) (by simp [results, Try.results25, go_sem, r0, r1, r2]) rfl ⟨_, _, _, rfl, (o5.only G (fun q hq hq' => by have := Q.out q hq; simp at hq'; omega)).lower (by omega), V5.trans (G.below V5.size (by simp))⟩
set_option maxHeartbeats 8000000 in
set_option maxRecDepth 100000 in
theorem FnExactBendMessage_walk (a0 : Int) (a1_0 : Int) (a1_1 : Int) (a1_2 : Option Addr) (n1_2 c1_2 : Nat) (l1_2 : List Int) (a2 : Int) (a3 : Int) (w : World) (_w0 : -9223372036854775808 ≤ a0 ∧ a0 ≤ 9223372036854775807) (_w1_0 : -9223372036854775808 ≤ a1_0 ∧ a1_0 ≤ 9223372036854775807) (_w1_1 : -9223372036854775808 ≤ a1_1 ∧ a1_1 ≤ 9223372036854775807) (z1_2 : Ints w a1_2 n1_2 c1_2 l1_2) (_wf1_2 : Wf l1_2) (_w2 : -9223372036854775808 ≤ a2 ∧ a2 ≤ 9223372036854775807) (_w3 : -9223372036854775808 ≤ a3 ∧ a3 ≤ 9223372036854775807) :
    Calls Try.prog 6 #[.int .i64 a0, .agg #[.int .i64 a1_0, .int .i64 a1_1, .slice a1_2 n1_2 c1_2], .int .i64 a2, .int .i64 a3] w fun e w' => e = .returned (.bool true) ∧ Below w.heap.size w w' := by
  have hn1_2 : (n1_2 : Int) ≤ 9223372036854775807 := z1_2.le
  by_cases ht1 : (n1_2 : Int) ≤ 1048576
  · skip
    go_enter Try.func6, Try.ntmps6
    go_wp2_with fail
    have V_w1' : Below w.heap.size w (w.alloc (.cells #[.int .i64 a1_0, .int .i64 a1_1, .slice a1_2 n1_2 c1_2] 34)) := (((Below.refl w.heap.size w)).alloc (by have := ((Below.refl w.heap.size w)).size; first | exact this | (simp; omega) | simp) _)
    have B_p1 : Blk (w.alloc (.cells #[.int .i64 a1_0, .int .i64 a1_1, .slice a1_2 n1_2 c1_2] 34)) (w.heap.size) 34 #[.int .i64 a1_0, .int .i64 a1_1, .slice a1_2 n1_2 c1_2] := Blk.new w 34 #[.int .i64 a1_0, .int .i64 a1_1, .slice a1_2 n1_2 c1_2]
    have S_w1' : w.heap.size + 1 ≤ (w.alloc (.cells #[.int .i64 a1_0, .int .i64 a1_1, .slice a1_2 n1_2 c1_2] 34)).heap.size := by simp
    generalize (w.alloc (.cells #[.int .i64 a1_0, .int .i64 a1_1, .slice a1_2 n1_2 c1_2] 34)) = w1' at *
    refine (szMessage_yes _ _ _ _ _ _ _ hn1_2 (by omega) (by omega)).mono ?_
    rintro e w2' ⟨rfl, u_w2'⟩
    replace B_p1 := B_p1.below u_w2'
    have V_w2' := V_w1'.trans (u_w2'.mono (V_w1').size)
    have S_w2' := u_w2'.size
    clear u_w2' V_w1'
    have e_p1_0 : w2'.cell? ⟨w.heap.size, 0, none⟩ = some (.int .i64 a1_0) := B_p1.cell 0
    have e_p1_1 : w2'.cell? ⟨w.heap.size, 1, none⟩ = some (.int .i64 a1_1) := B_p1.cell 1
    have e_p1_2 : w2'.cell? ⟨w.heap.size, 2, none⟩ = some (.slice a1_2 n1_2 c1_2) := B_p1.cell 2
    go_wp2_with fail
    clear e_p1_0 e_p1_1 e_p1_2
    refine (toMessage_any _ _ _ _ _ l1_2 _ (z1_2.below V_w2') (by omega)).mono ?_
    rintro e w3' ⟨y_a1_2, y_c1_2, rfl, y1_2, u_w3'⟩
    replace B_p1 := B_p1.below u_w3'
    have V_w3' := V_w2'.trans (u_w3'.mono (V_w2').size)
    have S_w3' := u_w3'.size
    clear u_w3' V_w2'
    have Q_y1_2 := Lib.hid y1_2.feet
    go_wp2_with fail
    refine (spec_BendMessage_any _ _ _ _ _ _ l1_2 _ _ _ y1_2.ints (by omega)).mono ?_
    rintro e w4' ⟨r_a0_2, r_n0_2, r_c0_2, rfl, r0_2, u_w4'⟩
    replace B_p1 := B_p1.below u_w4'
    replace y1_2 := y1_2.below u_w4'
    have V_w4' := V_w3'.trans (u_w4'.mono (V_w3').size)
    have S_w4' := u_w4'.size
    clear u_w4' V_w3'
    have Q_r0_2 := Lib.hid r0_2.feet
    clear y1_2
    have e_p1_0 : w4'.cell? ⟨w.heap.size, 0, none⟩ = some (.int .i64 a1_0) := B_p1.cell 0
    have e_p1_0_0 : (w4'.alloc (.cells #[.int .i64 (bmS a0 a1_0 l1_2 a2 a3), .int .i64 (bmS a0 a1_1 l1_2 a2 a3), .slice r_a0_2 r_n0_2 r_c0_2] 36)).cell? ⟨w.heap.size, 0, none⟩ = some (.int .i64 a1_0) := keepA _ e_p1_0
    have e_p1_1 : w4'.cell? ⟨w.heap.size, 1, none⟩ = some (.int .i64 a1_1) := B_p1.cell 1
    have e_p1_1_0 : (w4'.alloc (.cells #[.int .i64 (bmS a0 a1_0 l1_2 a2 a3), .int .i64 (bmS a0 a1_1 l1_2 a2 a3), .slice r_a0_2 r_n0_2 r_c0_2] 36)).cell? ⟨w.heap.size, 1, none⟩ = some (.int .i64 a1_1) := keepA _ e_p1_1
    have e_p1_2 : w4'.cell? ⟨w.heap.size, 2, none⟩ = some (.slice a1_2 n1_2 c1_2) := B_p1.cell 2
    have e_p1_2_0 : (w4'.alloc (.cells #[.int .i64 (bmS a0 a1_0 l1_2 a2 a3), .int .i64 (bmS a0 a1_1 l1_2 a2 a3), .slice r_a0_2 r_n0_2 r_c0_2] 36)).cell? ⟨w.heap.size, 2, none⟩ = some (.slice a1_2 n1_2 c1_2) := keepA _ e_p1_2
    go_wp2_with fail
    clear e_p1_0 e_p1_0_0 e_p1_1 e_p1_1_0 e_p1_2 e_p1_2_0
    have V_w5' : Below w.heap.size w (w4'.alloc (.cells #[.int .i64 (bmS a0 a1_0 l1_2 a2 a3), .int .i64 (bmS a0 a1_1 l1_2 a2 a3), .slice r_a0_2 r_n0_2 r_c0_2] 36)) := ((V_w4').alloc (by have := (V_w4').size; first | exact this | (simp; omega) | simp) _)
    replace B_p1 := B_p1.alloc (.cells #[.int .i64 (bmS a0 a1_0 l1_2 a2 a3), .int .i64 (bmS a0 a1_1 l1_2 a2 a3), .slice r_a0_2 r_n0_2 r_c0_2] 36)
    replace r0_2 := r0_2.alloc (.cells #[.int .i64 (bmS a0 a1_0 l1_2 a2 a3), .int .i64 (bmS a0 a1_1 l1_2 a2 a3), .slice r_a0_2 r_n0_2 r_c0_2] 36)
    have B_r0 : Blk (w4'.alloc (.cells #[.int .i64 (bmS a0 a1_0 l1_2 a2 a3), .int .i64 (bmS a0 a1_1 l1_2 a2 a3), .slice r_a0_2 r_n0_2 r_c0_2] 36)) (w4'.heap.size) 36 #[.int .i64 (bmS a0 a1_0 l1_2 a2 a3), .int .i64 (bmS a0 a1_1 l1_2 a2 a3), .slice r_a0_2 r_n0_2 r_c0_2] := Blk.new w4' 36 #[.int .i64 (bmS a0 a1_0 l1_2 a2 a3), .int .i64 (bmS a0 a1_1 l1_2 a2 a3), .slice r_a0_2 r_n0_2 r_c0_2]
    have S_w5' : w4'.heap.size + 1 ≤ (w4'.alloc (.cells #[.int .i64 (bmS a0 a1_0 l1_2 a2 a3), .int .i64 (bmS a0 a1_1 l1_2 a2 a3), .slice r_a0_2 r_n0_2 r_c0_2] 36)).heap.size := by simp
    generalize (w4'.alloc (.cells #[.int .i64 (bmS a0 a1_0 l1_2 a2 a3), .int .i64 (bmS a0 a1_1 l1_2 a2 a3), .slice r_a0_2 r_n0_2 r_c0_2] 36)) = w5' at *
    clear V_w4'
    refine (toMessage_any _ _ _ _ _ l1_2 _ (z1_2.below V_w5') (by omega)).mono ?_
    rintro e w6' ⟨x_a1_2, x_c1_2, rfl, x1_2, u_w6'⟩
    replace B_p1 := B_p1.below u_w6'
    replace B_r0 := B_r0.below u_w6'
    replace r0_2 := r0_2.below u_w6'
    have V_w6' := V_w5'.trans (u_w6'.mono (V_w5').size)
    have S_w6' := u_w6'.size
    clear u_w6' V_w5'
    have Q_x1_2 := Lib.hid x1_2.feet
    go_wp2_with fail
    have V_w7' : Below w.heap.size w (w6'.alloc (.cells #[.int .i64 a1_0, .int .i64 a1_1, .slice x_a1_2 n1_2 x_c1_2] 36)) := ((V_w6').alloc (by have := (V_w6').size; first | exact this | (simp; omega) | simp) _)
    replace B_p1 := B_p1.alloc (.cells #[.int .i64 a1_0, .int .i64 a1_1, .slice x_a1_2 n1_2 x_c1_2] 36)
    replace B_r0 := B_r0.alloc (.cells #[.int .i64 a1_0, .int .i64 a1_1, .slice x_a1_2 n1_2 x_c1_2] 36)
    replace r0_2 := r0_2.alloc (.cells #[.int .i64 a1_0, .int .i64 a1_1, .slice x_a1_2 n1_2 x_c1_2] 36)
    replace x1_2 := x1_2.alloc (.cells #[.int .i64 a1_0, .int .i64 a1_1, .slice x_a1_2 n1_2 x_c1_2] 36)
    have B_x1 : Blk (w6'.alloc (.cells #[.int .i64 a1_0, .int .i64 a1_1, .slice x_a1_2 n1_2 x_c1_2] 36)) (w6'.heap.size) 36 #[.int .i64 a1_0, .int .i64 a1_1, .slice x_a1_2 n1_2 x_c1_2] := Blk.new w6' 36 #[.int .i64 a1_0, .int .i64 a1_1, .slice x_a1_2 n1_2 x_c1_2]
    have S_w7' : w6'.heap.size + 1 ≤ (w6'.alloc (.cells #[.int .i64 a1_0, .int .i64 a1_1, .slice x_a1_2 n1_2 x_c1_2] 36)).heap.size := by simp
    generalize (w6'.alloc (.cells #[.int .i64 a1_0, .int .i64 a1_1, .slice x_a1_2 n1_2 x_c1_2] 36)) = w7' at *
    clear V_w6'
    refine (BendMessage_any _ _ _ _ _ _ l1_2 _ _ _ x1_2.ints (by omega)).mono ?_
    rintro e w8' ⟨g_a0_2, g_n0_2, g_c0_2, rfl, g0_2, u_w8'⟩
    replace B_p1 := B_p1.below u_w8'
    replace B_r0 := B_r0.below u_w8'
    replace B_x1 := B_x1.below u_w8'
    replace r0_2 := r0_2.below u_w8'
    replace x1_2 := x1_2.below u_w8'
    have V_w8' := V_w7'.trans (u_w8'.mono (V_w7').size)
    have S_w8' := u_w8'.size
    clear u_w8' V_w7'
    have Q_g0_2 := Lib.hid g0_2.feet
    have e_r0_0 : w8'.cell? ⟨w4'.heap.size, 0, none⟩ = some (.int .i64 (bmS a0 a1_0 l1_2 a2 a3)) := B_r0.cell 0
    have e_r0_0_0 : (w8'.alloc (.cells #[.int .i64 (bmS a0 a1_0 l1_2 a2 a3), .int .i64 (bmS a0 a1_1 l1_2 a2 a3), .slice g_a0_2 g_n0_2 g_c0_2] 36)).cell? ⟨w4'.heap.size, 0, none⟩ = some (.int .i64 (bmS a0 a1_0 l1_2 a2 a3)) := keepA _ e_r0_0
    have e_r0_1 : w8'.cell? ⟨w4'.heap.size, 1, none⟩ = some (.int .i64 (bmS a0 a1_1 l1_2 a2 a3)) := B_r0.cell 1
    have e_r0_1_0 : (w8'.alloc (.cells #[.int .i64 (bmS a0 a1_0 l1_2 a2 a3), .int .i64 (bmS a0 a1_1 l1_2 a2 a3), .slice g_a0_2 g_n0_2 g_c0_2] 36)).cell? ⟨w4'.heap.size, 1, none⟩ = some (.int .i64 (bmS a0 a1_1 l1_2 a2 a3)) := keepA _ e_r0_1
    have e_r0_2 : w8'.cell? ⟨w4'.heap.size, 2, none⟩ = some (.slice r_a0_2 r_n0_2 r_c0_2) := B_r0.cell 2
    have e_r0_2_0 : (w8'.alloc (.cells #[.int .i64 (bmS a0 a1_0 l1_2 a2 a3), .int .i64 (bmS a0 a1_1 l1_2 a2 a3), .slice g_a0_2 g_n0_2 g_c0_2] 36)).cell? ⟨w4'.heap.size, 2, none⟩ = some (.slice r_a0_2 r_n0_2 r_c0_2) := keepA _ e_r0_2
    go_wp2_with fail
    clear e_r0_0 e_r0_0_0 e_r0_1 e_r0_1_0 e_r0_2 e_r0_2_0
    have V_w9' : Below w.heap.size w (w8'.alloc (.cells #[.int .i64 (bmS a0 a1_0 l1_2 a2 a3), .int .i64 (bmS a0 a1_1 l1_2 a2 a3), .slice g_a0_2 g_n0_2 g_c0_2] 36)) := ((V_w8').alloc (by have := (V_w8').size; first | exact this | (simp; omega) | simp) _)
    replace B_p1 := B_p1.alloc (.cells #[.int .i64 (bmS a0 a1_0 l1_2 a2 a3), .int .i64 (bmS a0 a1_1 l1_2 a2 a3), .slice g_a0_2 g_n0_2 g_c0_2] 36)
    replace B_r0 := B_r0.alloc (.cells #[.int .i64 (bmS a0 a1_0 l1_2 a2 a3), .int .i64 (bmS a0 a1_1 l1_2 a2 a3), .slice g_a0_2 g_n0_2 g_c0_2] 36)
    replace B_x1 := B_x1.alloc (.cells #[.int .i64 (bmS a0 a1_0 l1_2 a2 a3), .int .i64 (bmS a0 a1_1 l1_2 a2 a3), .slice g_a0_2 g_n0_2 g_c0_2] 36)
    replace r0_2 := r0_2.alloc (.cells #[.int .i64 (bmS a0 a1_0 l1_2 a2 a3), .int .i64 (bmS a0 a1_1 l1_2 a2 a3), .slice g_a0_2 g_n0_2 g_c0_2] 36)
    replace x1_2 := x1_2.alloc (.cells #[.int .i64 (bmS a0 a1_0 l1_2 a2 a3), .int .i64 (bmS a0 a1_1 l1_2 a2 a3), .slice g_a0_2 g_n0_2 g_c0_2] 36)
    replace g0_2 := g0_2.alloc (.cells #[.int .i64 (bmS a0 a1_0 l1_2 a2 a3), .int .i64 (bmS a0 a1_1 l1_2 a2 a3), .slice g_a0_2 g_n0_2 g_c0_2] 36)
    have B_g0 : Blk (w8'.alloc (.cells #[.int .i64 (bmS a0 a1_0 l1_2 a2 a3), .int .i64 (bmS a0 a1_1 l1_2 a2 a3), .slice g_a0_2 g_n0_2 g_c0_2] 36)) (w8'.heap.size) 36 #[.int .i64 (bmS a0 a1_0 l1_2 a2 a3), .int .i64 (bmS a0 a1_1 l1_2 a2 a3), .slice g_a0_2 g_n0_2 g_c0_2] := Blk.new w8' 36 #[.int .i64 (bmS a0 a1_0 l1_2 a2 a3), .int .i64 (bmS a0 a1_1 l1_2 a2 a3), .slice g_a0_2 g_n0_2 g_c0_2]
    have S_w9' : w8'.heap.size + 1 ≤ (w8'.alloc (.cells #[.int .i64 (bmS a0 a1_0 l1_2 a2 a3), .int .i64 (bmS a0 a1_1 l1_2 a2 a3), .slice g_a0_2 g_n0_2 g_c0_2] 36)).heap.size := by simp
    generalize (w8'.alloc (.cells #[.int .i64 (bmS a0 a1_0 l1_2 a2 a3), .int .i64 (bmS a0 a1_1 l1_2 a2 a3), .slice g_a0_2 g_n0_2 g_c0_2] 36)) = w9' at *
    clear V_w8'
    refine (eqMessage_same _ _ _ _ _ _ _ _ _ _ g0_2.ints r0_2.ints).mono ?_
    rintro e w10' ⟨rfl, u_w10'⟩
    replace B_p1 := B_p1.below u_w10'
    replace B_r0 := B_r0.below u_w10'
    replace B_x1 := B_x1.below u_w10'
    replace B_g0 := B_g0.below u_w10'
    replace r0_2 := r0_2.below u_w10'
    replace x1_2 := x1_2.below u_w10'
    replace g0_2 := g0_2.below u_w10'
    have V_w10' := V_w9'.trans (u_w10'.mono (V_w9').size)
    have S_w10' := u_w10'.size
    clear u_w10' V_w9'
    have e_x1_0 : w10'.cell? ⟨w6'.heap.size, 0, none⟩ = some (.int .i64 a1_0) := B_x1.cell 0
    have e_x1_1 : w10'.cell? ⟨w6'.heap.size, 1, none⟩ = some (.int .i64 a1_1) := B_x1.cell 1
    have e_x1_2 : w10'.cell? ⟨w6'.heap.size, 2, none⟩ = some (.slice x_a1_2 n1_2 x_c1_2) := B_x1.cell 2
    have e_p1_0 : w10'.cell? ⟨w.heap.size, 0, none⟩ = some (.int .i64 a1_0) := B_p1.cell 0
    have e_p1_1 : w10'.cell? ⟨w.heap.size, 1, none⟩ = some (.int .i64 a1_1) := B_p1.cell 1
    have e_p1_2 : w10'.cell? ⟨w.heap.size, 2, none⟩ = some (.slice a1_2 n1_2 c1_2) := B_p1.cell 2
    go_wp2
    go_region_held3 (fun W => W.cell? ⟨w6'.heap.size, 0, none⟩ = some (.int .i64 a1_0) ∧ W.cell? ⟨w6'.heap.size, 1, none⟩ = some (.int .i64 a1_1) ∧ W.cell? ⟨w6'.heap.size, 2, none⟩ = some (.slice x_a1_2 n1_2 x_c1_2) ∧ W.cell? ⟨w.heap.size, 0, none⟩ = some (.int .i64 a1_0) ∧ W.cell? ⟨w.heap.size, 1, none⟩ = some (.int .i64 a1_1) ∧ W.cell? ⟨w.heap.size, 2, none⟩ = some (.slice a1_2 n1_2 c1_2))
      (first | go_keep | exact ⟨keepC tv (keepC tu e_x1_0), keepC tv (keepC tu e_x1_1), keepC tv (keepC tu e_x1_2), keepC tv (keepC tu e_p1_0), keepC tv (keepC tu e_p1_1), keepC tv (keepC tu e_p1_2)⟩ | exact ⟨keepC tu e_x1_0, keepC tu e_x1_1, keepC tu e_x1_2, keepC tu e_p1_0, keepC tu e_p1_1, keepC tu e_p1_2⟩)
      (first | (go_at_call 26; refine (toMessage_any _ _ _ _ _ l1_2 _ (z1_2.below V_w10'.drew) (by omega)).mono ?_; rintro e wt ⟨t_a1_2, t_c1_2, rfl, t1_2, tu⟩) | (go_at_call 28; refine (eqMessage_same _ _ _ _ _ _ _ _ l1_2 _ (x1_2.drew.below tu).ints t1_2.ints).mono ?_; rintro e wq ⟨rfl, tv⟩))
    have u_w11' : Below w10'.heap.size w10' wq := (Below.refl _ _).drew.trans (tu.trans (tv.mono tu.size))
    clear tu tv e_x1_0 e_x1_1 e_x1_2 e_p1_0 e_p1_1 e_p1_2 t1_2
    replace B_p1 := B_p1.below u_w11'
    replace B_r0 := B_r0.below u_w11'
    replace B_x1 := B_x1.below u_w11'
    replace B_g0 := B_g0.below u_w11'
    replace r0_2 := r0_2.below u_w11'
    replace x1_2 := x1_2.below u_w11'
    replace g0_2 := g0_2.below u_w11'
    have V_wq := V_w10'.trans (u_w11'.mono (V_w10').size)
    have S_wq := u_w11'.size
    clear u_w11' V_w10'
    generalize wq = w11' at *
    have V_w11' := V_wq
    clear V_wq
    have S_w11' := S_wq
    clear S_wq
    have e_x1_0 : w11'.cell? ⟨w6'.heap.size, 0, none⟩ = some (.int .i64 a1_0) := B_x1.cell 0
    have e_x1_1 : w11'.cell? ⟨w6'.heap.size, 1, none⟩ = some (.int .i64 a1_1) := B_x1.cell 1
    have e_x1_2 : w11'.cell? ⟨w6'.heap.size, 2, none⟩ = some (.slice x_a1_2 n1_2 x_c1_2) := B_x1.cell 2
    go_wp2_with fail
    clear e_x1_0 e_x1_1 e_x1_2
    refine (markMessage_any _ _ _ _ _ _ _ _ _ x1_2  (by omega) (by omega)).mono ?_
    rintro e w12' ⟨rfl, ⟨L_x1_2, x1_2, U_x1_2⟩, G⟩
    replace U_x1_2 := Lib.hid U_x1_2
    have RG : ∀ k ∈ foot x_a1_2 x_c1_2, k ∈ foot x_a1_2 x_c1_2 := fun k hk => by
      simpa [or_assoc] using hk
    replace r0_2 := r0_2.only G (fun k hk hk' => by have := Q_r0_2.out k hk; have := Q_x1_2.out k hk'; omega)
    replace g0_2 := g0_2.only G (fun k hk hk' => by have := Q_g0_2.out k hk; have := Q_x1_2.out k hk'; omega)
    replace B_p1 := B_p1.only G (fun hm => by rcases RG _ hm with h <;> first | (have := Q_x1_2.out _ h; omega))
    replace B_r0 := B_r0.only G (fun hm => by rcases RG _ hm with h <;> first | (have := Q_x1_2.out _ h; omega))
    replace B_x1 := B_x1.only G (fun hm => by rcases RG _ hm with h <;> first | (have := Q_x1_2.out _ h; omega))
    replace B_g0 := B_g0.only G (fun hm => by rcases RG _ hm with h <;> first | (have := Q_x1_2.out _ h; omega))
    have V_w12' := V_w11'.trans (G.below V_w11'.size (fun k hm => by have := V_w11'.size; rcases RG _ hm with h <;> first | (have := Q_x1_2.out _ h; omega)))
    have S_w12' := G.size
    clear G RG V_w11'
    have e_g0_0 : w12'.cell? ⟨w8'.heap.size, 0, none⟩ = some (.int .i64 (bmS a0 a1_0 l1_2 a2 a3)) := B_g0.cell 0
    have e_g0_1 : w12'.cell? ⟨w8'.heap.size, 1, none⟩ = some (.int .i64 (bmS a0 a1_1 l1_2 a2 a3)) := B_g0.cell 1
    have e_g0_2 : w12'.cell? ⟨w8'.heap.size, 2, none⟩ = some (.slice g_a0_2 g_n0_2 g_c0_2) := B_g0.cell 2
    have e_r0_0 : w12'.cell? ⟨w4'.heap.size, 0, none⟩ = some (.int .i64 (bmS a0 a1_0 l1_2 a2 a3)) := B_r0.cell 0
    have e_r0_1 : w12'.cell? ⟨w4'.heap.size, 1, none⟩ = some (.int .i64 (bmS a0 a1_1 l1_2 a2 a3)) := B_r0.cell 1
    have e_r0_2 : w12'.cell? ⟨w4'.heap.size, 2, none⟩ = some (.slice r_a0_2 r_n0_2 r_c0_2) := B_r0.cell 2
    go_wp2_with fail
    clear e_g0_0 e_g0_1 e_g0_2 e_r0_0 e_r0_1 e_r0_2
    refine (eqMessage_same _ _ _ _ _ _ _ _ _ _ g0_2.ints r0_2.ints).mono ?_
    rintro e w13' ⟨rfl, u_w13'⟩
    replace B_p1 := B_p1.below u_w13'
    replace B_r0 := B_r0.below u_w13'
    replace B_x1 := B_x1.below u_w13'
    replace B_g0 := B_g0.below u_w13'
    replace r0_2 := r0_2.below u_w13'
    replace x1_2 := x1_2.below u_w13'
    replace g0_2 := g0_2.below u_w13'
    have V_w13' := V_w12'.trans (u_w13'.mono (V_w12').size)
    have S_w13' := u_w13'.size
    clear u_w13' V_w12'
    clear x1_2
    clear B_x1
    have hlg0_2 : g_n0_2 ≤ 1048576 := by rw [g0_2.len]; exact Nat.le_trans (bmL_len a0 l1_2 a2 a3) (by have := z1_2.len; omega)
    have e_g0_0 : w13'.cell? ⟨w8'.heap.size, 0, none⟩ = some (.int .i64 (bmS a0 a1_0 l1_2 a2 a3)) := B_g0.cell 0
    have e_g0_1 : w13'.cell? ⟨w8'.heap.size, 1, none⟩ = some (.int .i64 (bmS a0 a1_1 l1_2 a2 a3)) := B_g0.cell 1
    have e_g0_2 : w13'.cell? ⟨w8'.heap.size, 2, none⟩ = some (.slice g_a0_2 g_n0_2 g_c0_2) := B_g0.cell 2
    go_wp2_with fail
    clear e_g0_0 e_g0_1 e_g0_2
    refine (markMessage_any _ _ _ _ _ _ _ _ _ g0_2  (by omega) (by omega)).mono ?_
    rintro e w14' ⟨rfl, ⟨L_g0_2, g0_2, U_g0_2⟩, G⟩
    replace U_g0_2 := Lib.hid U_g0_2
    have RG : ∀ k ∈ foot g_a0_2 g_c0_2, k ∈ foot g_a0_2 g_c0_2 := fun k hk => by
      simpa [or_assoc] using hk
    replace r0_2 := r0_2.only G (fun k hk hk' => by have := Q_r0_2.out k hk; have := Q_g0_2.out k hk'; omega)
    replace B_p1 := B_p1.only G (fun hm => by rcases RG _ hm with h <;> first | (have := Q_g0_2.out _ h; omega))
    replace B_r0 := B_r0.only G (fun hm => by rcases RG _ hm with h <;> first | (have := Q_g0_2.out _ h; omega))
    replace B_g0 := B_g0.only G (fun hm => by rcases RG _ hm with h <;> first | (have := Q_g0_2.out _ h; omega))
    have V_w14' := V_w13'.trans (G.below V_w13'.size (fun k hm => by have := V_w13'.size; rcases RG _ hm with h <;> first | (have := Q_g0_2.out _ h; omega)))
    have S_w14' := G.size
    clear G RG V_w13'
    have e_g0_0 : w14'.cell? ⟨w8'.heap.size, 0, none⟩ = some (.int .i64 (bmS a0 a1_0 l1_2 a2 a3)) := B_g0.cell 0
    have e_g0_1 : w14'.cell? ⟨w8'.heap.size, 1, none⟩ = some (.int .i64 (bmS a0 a1_1 l1_2 a2 a3)) := B_g0.cell 1
    have e_g0_2 : w14'.cell? ⟨w8'.heap.size, 2, none⟩ = some (.slice g_a0_2 g_n0_2 g_c0_2) := B_g0.cell 2
    go_wp2_with fail
    clear e_g0_0 e_g0_1 e_g0_2
    refine (heldMessage_any _ _ _ _ _ _ _ _ g0_2.ints U_g0_2.out (by omega) (by omega)).mono ?_
    rintro e w15' ⟨rfl, u_w15'⟩
    replace B_p1 := B_p1.below u_w15'
    replace B_r0 := B_r0.below u_w15'
    replace B_g0 := B_g0.below u_w15'
    replace r0_2 := r0_2.below u_w15'
    replace g0_2 := g0_2.below u_w15'
    have V_w15' := V_w14'.trans (u_w15'.mono (V_w14').size)
    have S_w15' := u_w15'.size
    clear u_w15' V_w14'
    have e_p1_0 : w15'.cell? ⟨w.heap.size, 0, none⟩ = some (.int .i64 a1_0) := B_p1.cell 0
    have e_p1_1 : w15'.cell? ⟨w.heap.size, 1, none⟩ = some (.int .i64 a1_1) := B_p1.cell 1
    have e_p1_2 : w15'.cell? ⟨w.heap.size, 2, none⟩ = some (.slice a1_2 n1_2 c1_2) := B_p1.cell 2
    go_wp2_with fail
    clear e_p1_0 e_p1_1 e_p1_2
    refine (toMessage_any _ _ _ _ _ l1_2 _ (z1_2.below V_w15') (by omega)).mono ?_
    rintro e w16' ⟨x_a1_2, x_c1_2, rfl, x1_2, u_w16'⟩
    replace B_p1 := B_p1.below u_w16'
    replace B_r0 := B_r0.below u_w16'
    replace B_g0 := B_g0.below u_w16'
    replace r0_2 := r0_2.below u_w16'
    replace g0_2 := g0_2.below u_w16'
    have V_w16' := V_w15'.trans (u_w16'.mono (V_w15').size)
    have S_w16' := u_w16'.size
    clear u_w16' V_w15'
    have Q_x1_2 := Lib.hid x1_2.feet
    go_wp2_with fail
    refine (BendMessage_any _ _ _ _ _ _ l1_2 _ _ _ x1_2.ints (by omega)).mono ?_
    rintro e w17' ⟨h_a0_2, h_n0_2, h_c0_2, rfl, h0_2, u_w17'⟩
    replace B_p1 := B_p1.below u_w17'
    replace B_r0 := B_r0.below u_w17'
    replace B_g0 := B_g0.below u_w17'
    replace r0_2 := r0_2.below u_w17'
    replace g0_2 := g0_2.below u_w17'
    replace x1_2 := x1_2.below u_w17'
    have V_w17' := V_w16'.trans (u_w17'.mono (V_w16').size)
    have S_w17' := u_w17'.size
    clear u_w17' V_w16'
    have Q_h0_2 := Lib.hid h0_2.feet
    clear x1_2
    have e_r0_0 : w17'.cell? ⟨w4'.heap.size, 0, none⟩ = some (.int .i64 (bmS a0 a1_0 l1_2 a2 a3)) := B_r0.cell 0
    have e_r0_0_0 : (w17'.alloc (.cells #[.int .i64 (bmS a0 a1_0 l1_2 a2 a3), .int .i64 (bmS a0 a1_1 l1_2 a2 a3), .slice h_a0_2 h_n0_2 h_c0_2] 36)).cell? ⟨w4'.heap.size, 0, none⟩ = some (.int .i64 (bmS a0 a1_0 l1_2 a2 a3)) := keepA _ e_r0_0
    have e_r0_1 : w17'.cell? ⟨w4'.heap.size, 1, none⟩ = some (.int .i64 (bmS a0 a1_1 l1_2 a2 a3)) := B_r0.cell 1
    have e_r0_1_0 : (w17'.alloc (.cells #[.int .i64 (bmS a0 a1_0 l1_2 a2 a3), .int .i64 (bmS a0 a1_1 l1_2 a2 a3), .slice h_a0_2 h_n0_2 h_c0_2] 36)).cell? ⟨w4'.heap.size, 1, none⟩ = some (.int .i64 (bmS a0 a1_1 l1_2 a2 a3)) := keepA _ e_r0_1
    have e_r0_2 : w17'.cell? ⟨w4'.heap.size, 2, none⟩ = some (.slice r_a0_2 r_n0_2 r_c0_2) := B_r0.cell 2
    have e_r0_2_0 : (w17'.alloc (.cells #[.int .i64 (bmS a0 a1_0 l1_2 a2 a3), .int .i64 (bmS a0 a1_1 l1_2 a2 a3), .slice h_a0_2 h_n0_2 h_c0_2] 36)).cell? ⟨w4'.heap.size, 2, none⟩ = some (.slice r_a0_2 r_n0_2 r_c0_2) := keepA _ e_r0_2
    go_wp2_with fail
    clear e_r0_0 e_r0_0_0 e_r0_1 e_r0_1_0 e_r0_2 e_r0_2_0
    have V_w18' : Below w.heap.size w (w17'.alloc (.cells #[.int .i64 (bmS a0 a1_0 l1_2 a2 a3), .int .i64 (bmS a0 a1_1 l1_2 a2 a3), .slice h_a0_2 h_n0_2 h_c0_2] 36)) := ((V_w17').alloc (by have := (V_w17').size; first | exact this | (simp; omega) | simp) _)
    replace B_p1 := B_p1.alloc (.cells #[.int .i64 (bmS a0 a1_0 l1_2 a2 a3), .int .i64 (bmS a0 a1_1 l1_2 a2 a3), .slice h_a0_2 h_n0_2 h_c0_2] 36)
    replace B_r0 := B_r0.alloc (.cells #[.int .i64 (bmS a0 a1_0 l1_2 a2 a3), .int .i64 (bmS a0 a1_1 l1_2 a2 a3), .slice h_a0_2 h_n0_2 h_c0_2] 36)
    replace B_g0 := B_g0.alloc (.cells #[.int .i64 (bmS a0 a1_0 l1_2 a2 a3), .int .i64 (bmS a0 a1_1 l1_2 a2 a3), .slice h_a0_2 h_n0_2 h_c0_2] 36)
    replace r0_2 := r0_2.alloc (.cells #[.int .i64 (bmS a0 a1_0 l1_2 a2 a3), .int .i64 (bmS a0 a1_1 l1_2 a2 a3), .slice h_a0_2 h_n0_2 h_c0_2] 36)
    replace g0_2 := g0_2.alloc (.cells #[.int .i64 (bmS a0 a1_0 l1_2 a2 a3), .int .i64 (bmS a0 a1_1 l1_2 a2 a3), .slice h_a0_2 h_n0_2 h_c0_2] 36)
    replace h0_2 := h0_2.alloc (.cells #[.int .i64 (bmS a0 a1_0 l1_2 a2 a3), .int .i64 (bmS a0 a1_1 l1_2 a2 a3), .slice h_a0_2 h_n0_2 h_c0_2] 36)
    have B_h0 : Blk (w17'.alloc (.cells #[.int .i64 (bmS a0 a1_0 l1_2 a2 a3), .int .i64 (bmS a0 a1_1 l1_2 a2 a3), .slice h_a0_2 h_n0_2 h_c0_2] 36)) (w17'.heap.size) 36 #[.int .i64 (bmS a0 a1_0 l1_2 a2 a3), .int .i64 (bmS a0 a1_1 l1_2 a2 a3), .slice h_a0_2 h_n0_2 h_c0_2] := Blk.new w17' 36 #[.int .i64 (bmS a0 a1_0 l1_2 a2 a3), .int .i64 (bmS a0 a1_1 l1_2 a2 a3), .slice h_a0_2 h_n0_2 h_c0_2]
    have S_w18' : w17'.heap.size + 1 ≤ (w17'.alloc (.cells #[.int .i64 (bmS a0 a1_0 l1_2 a2 a3), .int .i64 (bmS a0 a1_1 l1_2 a2 a3), .slice h_a0_2 h_n0_2 h_c0_2] 36)).heap.size := by simp
    generalize (w17'.alloc (.cells #[.int .i64 (bmS a0 a1_0 l1_2 a2 a3), .int .i64 (bmS a0 a1_1 l1_2 a2 a3), .slice h_a0_2 h_n0_2 h_c0_2] 36)) = w18' at *
    clear V_w17'
    refine (eqMessage_same _ _ _ _ _ _ _ _ _ _ h0_2.ints r0_2.ints).mono ?_
    rintro e w19' ⟨rfl, u_w19'⟩
    replace B_p1 := B_p1.below u_w19'
    replace B_r0 := B_r0.below u_w19'
    replace B_g0 := B_g0.below u_w19'
    replace B_h0 := B_h0.below u_w19'
    replace r0_2 := r0_2.below u_w19'
    replace g0_2 := g0_2.below u_w19'
    replace h0_2 := h0_2.below u_w19'
    have V_w19' := V_w18'.trans (u_w19'.mono (V_w18').size)
    have S_w19' := u_w19'.size
    clear u_w19' V_w18'
    have e_g0_0 : w19'.cell? ⟨w8'.heap.size, 0, none⟩ = some (.int .i64 (bmS a0 a1_0 l1_2 a2 a3)) := B_g0.cell 0
    have e_g0_1 : w19'.cell? ⟨w8'.heap.size, 1, none⟩ = some (.int .i64 (bmS a0 a1_1 l1_2 a2 a3)) := B_g0.cell 1
    have e_g0_2 : w19'.cell? ⟨w8'.heap.size, 2, none⟩ = some (.slice g_a0_2 g_n0_2 g_c0_2) := B_g0.cell 2
    go_wp2_with fail
    clear e_g0_0 e_g0_1 e_g0_2
    refine (heldMessage_any _ _ _ _ _ _ _ _ g0_2.ints U_g0_2.out (by omega) (by omega)).mono ?_
    rintro e w20' ⟨rfl, u_w20'⟩
    replace B_p1 := B_p1.below u_w20'
    replace B_r0 := B_r0.below u_w20'
    replace B_g0 := B_g0.below u_w20'
    replace B_h0 := B_h0.below u_w20'
    replace r0_2 := r0_2.below u_w20'
    replace g0_2 := g0_2.below u_w20'
    replace h0_2 := h0_2.below u_w20'
    have V_w20' := V_w19'.trans (u_w20'.mono (V_w19').size)
    have S_w20' := u_w20'.size
    clear u_w20' V_w19'
    go_wp2
    go_ret
    exact ⟨rfl, V_w20'⟩
  · skip
    go_enter Try.func6, Try.ntmps6
    go_wp2_with fail
    have V_w21' : Below w.heap.size w (w.alloc (.cells #[.int .i64 a1_0, .int .i64 a1_1, .slice a1_2 n1_2 c1_2] 34)) := (((Below.refl w.heap.size w)).alloc (by have := ((Below.refl w.heap.size w)).size; first | exact this | (simp; omega) | simp) _)
    have B_p1 : Blk (w.alloc (.cells #[.int .i64 a1_0, .int .i64 a1_1, .slice a1_2 n1_2 c1_2] 34)) (w.heap.size) 34 #[.int .i64 a1_0, .int .i64 a1_1, .slice a1_2 n1_2 c1_2] := Blk.new w 34 #[.int .i64 a1_0, .int .i64 a1_1, .slice a1_2 n1_2 c1_2]
    have S_w21' : w.heap.size + 1 ≤ (w.alloc (.cells #[.int .i64 a1_0, .int .i64 a1_1, .slice a1_2 n1_2 c1_2] 34)).heap.size := by simp
    generalize (w.alloc (.cells #[.int .i64 a1_0, .int .i64 a1_1, .slice a1_2 n1_2 c1_2] 34)) = w21' at *
    refine (szMessage_no _ _ _ _ _ _ _ hn1_2 (by omega) (by omega) (by omega)).mono ?_
    rintro e w22' ⟨rfl, u_w22'⟩
    replace B_p1 := B_p1.below u_w22'
    have V_w22' := V_w21'.trans (u_w22'.mono (V_w21').size)
    have S_w22' := u_w22'.size
    clear u_w22' V_w21'
    go_wp2
    go_ret
    exact ⟨rfl, V_w22'⟩
end Go.Proofs.Ytkpnncpgdiboaaa
