/- Arithmetic circuits: the laws' own helpers. -/
import Derived.Test.YtjnblfnfegjbfaaArGates
namespace Go.Proofs.Ytjnblfnfegjbfaa
open Go.RowKit
set_option maxHeartbeats 4000000 in
set_option maxRecDepth 100000 in
theorem toArith_any (s0 : Int) (s1 : Int) (s2 : Int) (a3 : Option Addr) (n3 c3 : Nat) (l3 : List Int) (a4 : Option Addr) (n4 c4 : Nat) (l4 : List Int) (w : World) (h3 : Flat 3 w a3 n3 c3 l3) (h4 : Ints w a4 n4 c4 l4) (hs3 : n3 ≤ 1048576) (hs4 : n4 ≤ 1048576) :
    Calls Try.prog 14 #[.agg #[.int .i64 s0, .int .i64 s1, .int .i64 s2, .slice a3 n3 c3, .slice a4 n4 c4]] w fun e w' => ∃ b3 d3 b4 d4, e = .returned (.agg #[.int .i64 s0, .int .i64 s1, .int .i64 s2, .slice b3 n3 d3, .slice b4 n4 d4]) ∧ OwnF 3 eGate w' w.heap.size b3 n3 d3 l3 ∧ Own w' w.heap.size b4 n4 d4 l4 ∧ Disj (foot b3 d3) (foot b4 d4) ∧ Below w.heap.size w w' := by
  go_enter Try.func14, Try.ntmps14
  go_wp2_with fail
  have V0 : Below w.heap.size w (((w.alloc (.cells #[.int .i64 s0, .int .i64 s1, .int .i64 s2, .slice a3 n3 c3, .slice a4 n4 c4] 25)).alloc (.cells #[.int .i64 0, .int .i64 0, .int .i64 0, .slice none 0 0, .slice none 0 0] 31)).alloc (.cells #[.int .i64 s0, .int .i64 s1, .int .i64 s2, .slice none 0 0, .slice none 0 0] 31)) := ((((Below.refl _ w).alloc (Nat.le_refl w.heap.size) _).alloc (by simp) _).alloc (by simp; omega) _)
  have P0 : Blk (((w.alloc (.cells #[.int .i64 s0, .int .i64 s1, .int .i64 s2, .slice a3 n3 c3, .slice a4 n4 c4] 25)).alloc (.cells #[.int .i64 0, .int .i64 0, .int .i64 0, .slice none 0 0, .slice none 0 0] 31)).alloc (.cells #[.int .i64 s0, .int .i64 s1, .int .i64 s2, .slice none 0 0, .slice none 0 0] 31)) w.heap.size 25 #[.int .i64 s0, .int .i64 s1, .int .i64 s2, .slice a3 n3 c3, .slice a4 n4 c4] := ((Blk.new w _ _).alloc _).alloc _
  have R0 : Blk (((w.alloc (.cells #[.int .i64 s0, .int .i64 s1, .int .i64 s2, .slice a3 n3 c3, .slice a4 n4 c4] 25)).alloc (.cells #[.int .i64 0, .int .i64 0, .int .i64 0, .slice none 0 0, .slice none 0 0] 31)).alloc (.cells #[.int .i64 s0, .int .i64 s1, .int .i64 s2, .slice none 0 0, .slice none 0 0] 31)) (w.heap.size + 1) 31 #[.int .i64 0, .int .i64 0, .int .i64 0, .slice none 0 0, .slice none 0 0] := by simpa using ((Blk.new (w.alloc _) 31 #[.int .i64 0, .int .i64 0, .int .i64 0, .slice none 0 0, .slice none 0 0]).alloc _ : Blk (((w.alloc (.cells #[.int .i64 s0, .int .i64 s1, .int .i64 s2, .slice a3 n3 c3, .slice a4 n4 c4] 25)).alloc (.cells #[.int .i64 0, .int .i64 0, .int .i64 0, .slice none 0 0, .slice none 0 0] 31)).alloc (.cells #[.int .i64 s0, .int .i64 s1, .int .i64 s2, .slice none 0 0, .slice none 0 0] 31)) _ _ _)
  have O0 : Blk (((w.alloc (.cells #[.int .i64 s0, .int .i64 s1, .int .i64 s2, .slice a3 n3 c3, .slice a4 n4 c4] 25)).alloc (.cells #[.int .i64 0, .int .i64 0, .int .i64 0, .slice none 0 0, .slice none 0 0] 31)).alloc (.cells #[.int .i64 s0, .int .i64 s1, .int .i64 s2, .slice none 0 0, .slice none 0 0] 31)) (w.heap.size + 2) 31 #[.int .i64 s0, .int .i64 s1, .int .i64 s2, .slice none 0 0, .slice none 0 0] := by simpa using (Blk.new ((w.alloc _).alloc _) 31 #[.int .i64 s0, .int .i64 s1, .int .i64 s2, .slice none 0 0, .slice none 0 0] : Blk (((w.alloc (.cells #[.int .i64 s0, .int .i64 s1, .int .i64 s2, .slice a3 n3 c3, .slice a4 n4 c4] 25)).alloc (.cells #[.int .i64 0, .int .i64 0, .int .i64 0, .slice none 0 0, .slice none 0 0] 31)).alloc (.cells #[.int .i64 s0, .int .i64 s1, .int .i64 s2, .slice none 0 0, .slice none 0 0] 31)) _ _ _)
  have S0 : w.heap.size + 3 ≤ (((w.alloc (.cells #[.int .i64 s0, .int .i64 s1, .int .i64 s2, .slice a3 n3 c3, .slice a4 n4 c4] 25)).alloc (.cells #[.int .i64 0, .int .i64 0, .int .i64 0, .slice none 0 0, .slice none 0 0] 31)).alloc (.cells #[.int .i64 s0, .int .i64 s1, .int .i64 s2, .slice none 0 0, .slice none 0 0] 31)).heap.size := by simp
  generalize (((w.alloc (.cells #[.int .i64 s0, .int .i64 s1, .int .i64 s2, .slice a3 n3 c3, .slice a4 n4 c4] 25)).alloc (.cells #[.int .i64 0, .int .i64 0, .int .i64 0, .slice none 0 0, .slice none 0 0] 31)).alloc (.cells #[.int .i64 s0, .int .i64 s1, .int .i64 s2, .slice none 0 0, .slice none 0 0] 31)) = w0 at *
  refine (toGateS_any _ _ _ l3 _ (h3.below V0) hs3).mono ?_; rintro e w1 ⟨b3, d3, rfl, o3, u3⟩
  have Q3 := Lib.hid o3.feet
  have V1 := V0.trans (u3.mono V0.size)
  have S1 : w.heap.size + 3 ≤ w1.heap.size := Nat.le_trans S0 u3.size
  have T1 := u3.size
  have P1 := P0.below u3
  have R1 := R0.below u3
  have O1 := O0.below u3
  clear u3 V0 P0 R0 O0
  have x0 : w1.cell? ⟨w.heap.size + 2, 0, none⟩ = some (.int .i64 s0) := O1.cell 0
  have f0 : w1.frozen? ⟨w.heap.size + 2, 0, none⟩ = false := O1.frozen 0
  have x1 : w1.cell? ⟨w.heap.size + 2, 1, none⟩ = some (.int .i64 s1) := O1.cell 1
  have f1 : w1.frozen? ⟨w.heap.size + 2, 1, none⟩ = false := O1.frozen 1
  have x2 : w1.cell? ⟨w.heap.size + 2, 2, none⟩ = some (.int .i64 s2) := O1.cell 2
  have f2 : w1.frozen? ⟨w.heap.size + 2, 2, none⟩ = false := O1.frozen 2
  have x3 : w1.cell? ⟨w.heap.size + 2, 3, none⟩ = some (.slice none 0 0) := O1.cell 3
  have f3 : w1.frozen? ⟨w.heap.size + 2, 3, none⟩ = false := O1.frozen 3
  have x4 : w1.cell? ⟨w.heap.size + 2, 4, none⟩ = some (.slice none 0 0) := O1.cell 4
  have f4 : w1.frozen? ⟨w.heap.size + 2, 4, none⟩ = false := O1.frozen 4
  have y4 : w1.cell? ⟨w.heap.size, 4, none⟩ = some (.slice a4 n4 c4) := P1.cell 4
  go_wp2_with fail
  have G1 : Only [w.heap.size + 2] w1 (w1.setCell ⟨w.heap.size + 2, 3, none⟩ (.slice b3 n3 d3)) := ((Only.refl [w.heap.size + 2] w1).setCell ⟨w.heap.size + 2, 3, none⟩ (.slice b3 n3 d3) (by simp))
  have V2 := V1.trans (G1.below V1.size (by simp))
  have S2 : w.heap.size + 3 ≤ (w1.setCell ⟨w.heap.size + 2, 3, none⟩ (.slice b3 n3 d3)).heap.size := Nat.le_trans S1 G1.size
  have T2 := G1.size
  have P2 := P1.only G1 (by simp)
  have R2 := R1.only G1 (by simp)
  have O2 : Blk (w1.setCell ⟨w.heap.size + 2, 3, none⟩ (.slice b3 n3 d3)) (w.heap.size + 2) 31 #[.int .i64 s0, .int .i64 s1, .int .i64 s2, .slice b3 n3 d3, .slice none 0 0] := (O1.set_ 3 (.slice b3 n3 d3))
  replace o3 := o3.only G1 (fun k hk hk' => by have := Q3.out k hk; simp at hk'; omega)
  clear G1 V1 P1 R1 O1 x0 f0 x1 f1 x2 f2 x3 f3 x4 f4 y4
  generalize (w1.setCell ⟨w.heap.size + 2, 3, none⟩ (.slice b3 n3 d3)) = w2 at *
  refine (toIntS_any _ _ _ l4 _ (h4.below V2) hs4).mono ?_; rintro e w3 ⟨b4, d4, rfl, o4, u4⟩
  have Q4 := Lib.hid o4.feet
  have V3 := V2.trans (u4.mono V2.size)
  have S3 : w.heap.size + 3 ≤ w3.heap.size := Nat.le_trans S2 u4.size
  have T3 := u4.size
  have P3 := P2.below u4
  have R3 := R2.below u4
  have O3 := O2.below u4
  replace o3 := o3.below u4
  clear u4 V2 P2 R2 O2
  have x0 : w3.cell? ⟨w.heap.size + 2, 0, none⟩ = some (.int .i64 s0) := O3.cell 0
  have f0 : w3.frozen? ⟨w.heap.size + 2, 0, none⟩ = false := O3.frozen 0
  have x1 : w3.cell? ⟨w.heap.size + 2, 1, none⟩ = some (.int .i64 s1) := O3.cell 1
  have f1 : w3.frozen? ⟨w.heap.size + 2, 1, none⟩ = false := O3.frozen 1
  have x2 : w3.cell? ⟨w.heap.size + 2, 2, none⟩ = some (.int .i64 s2) := O3.cell 2
  have f2 : w3.frozen? ⟨w.heap.size + 2, 2, none⟩ = false := O3.frozen 2
  have x3 : w3.cell? ⟨w.heap.size + 2, 3, none⟩ = some (.slice b3 n3 d3) := O3.cell 3
  have f3 : w3.frozen? ⟨w.heap.size + 2, 3, none⟩ = false := O3.frozen 3
  have x4 : w3.cell? ⟨w.heap.size + 2, 4, none⟩ = some (.slice none 0 0) := O3.cell 4
  have f4 : w3.frozen? ⟨w.heap.size + 2, 4, none⟩ = false := O3.frozen 4
  have r0 : w3.cell? ⟨w.heap.size + 1, 0, none⟩ = some (.int .i64 0) := R3.cell 0
  have q0 : w3.frozen? ⟨w.heap.size + 1, 0, none⟩ = false := R3.frozen 0
  have r1 : w3.cell? ⟨w.heap.size + 1, 1, none⟩ = some (.int .i64 0) := R3.cell 1
  have q1 : w3.frozen? ⟨w.heap.size + 1, 1, none⟩ = false := R3.frozen 1
  have r2 : w3.cell? ⟨w.heap.size + 1, 2, none⟩ = some (.int .i64 0) := R3.cell 2
  have q2 : w3.frozen? ⟨w.heap.size + 1, 2, none⟩ = false := R3.frozen 2
  have r3 : w3.cell? ⟨w.heap.size + 1, 3, none⟩ = some (.slice none 0 0) := R3.cell 3
  have q3 : w3.frozen? ⟨w.heap.size + 1, 3, none⟩ = false := R3.frozen 3
  have r4 : w3.cell? ⟨w.heap.size + 1, 4, none⟩ = some (.slice none 0 0) := R3.cell 4
  have q4 : w3.frozen? ⟨w.heap.size + 1, 4, none⟩ = false := R3.frozen 4
  go_wp2
  have G := (((((((Only.refl [w.heap.size + 2, w.heap.size + 1] w3).setCell ⟨w.heap.size + 2, 4, none⟩ (.slice b4 n4 d4) (by simp)).setCell ⟨w.heap.size + 1, 0, none⟩ (.int .i64 s0) (by simp)).setCell ⟨w.heap.size + 1, 1, none⟩ (.int .i64 s1) (by simp)).setCell ⟨w.heap.size + 1, 2, none⟩ (.int .i64 s2) (by simp)).setCell ⟨w.heap.size + 1, 3, none⟩ (.slice b3 n3 d3) (by simp)).setCell ⟨w.heap.size + 1, 4, none⟩ (.slice b4 n4 d4) (by simp))
  exact bodyPost_ret (v := .agg #[.int .i64 s0, .int .i64 s1, .int .i64 s2, .slice b3 n3 d3, .slice b4 n4 d4]) (by simp [results, Try.results14, go_sem, r0, r1, r2, r3, r4]) rfl ⟨_, _, _, _, rfl, (o3.only G (fun k hk hk' => by have := Q3.out k hk; simp at hk'; omega)).lower (by omega), (o4.only G (fun k hk hk' => by have := Q4.out k hk; simp at hk'; omega)).lower (by omega), (fun k hk hk' => by have := Q3.out k hk; have := Q4.out k hk'; omega), V3.trans (G.below V3.size (by simp))⟩
set_option maxHeartbeats 4000000 in
set_option maxRecDepth 100000 in
theorem szArith_yes (s0 : Int) (s1 : Int) (s2 : Int) (a3 : Option Addr) (n3 c3 : Nat) (a4 : Option Addr) (n4 c4 : Nat) (left : Int) (w : World) (hn3 : (n3 : Int) ≤ 9223372036854775807) (hn4 : (n4 : Int) ≤ 9223372036854775807) (h0 : left ≤ 1048576) (h1 : (n3 : Int) + (n4 : Int) ≤ left) :
    Calls Try.prog 12 #[.agg #[.int .i64 s0, .int .i64 s1, .int .i64 s2, .slice a3 n3 c3, .slice a4 n4 c4], .int .i64 left] w fun e w' => e = .returned (.int .i64 (left - n3 - n4)) ∧ Below w.heap.size w w' := by
  go_enter Try.func12, Try.ntmps12
  go_wp2_with fail
  have V0 : Below w.heap.size w (w.alloc (.cells #[.int .i64 s0, .int .i64 s1, .int .i64 s2, .slice a3 n3 c3, .slice a4 n4 c4] 25)) := (Below.refl _ w).alloc (Nat.le_refl w.heap.size) _
  refine (szGateS_yes _ _ _ (left) _ (by omega) (by omega) (by omega)).mono ?_; rintro e w' ⟨rfl, rfl⟩
  go_wp2_with fail
  refine (szIntS_yes _ _ _ (left - n3) _ (by omega) (by omega) (by omega)).mono ?_; rintro e w' ⟨rfl, rfl⟩
  go_wp2
  go_ret
  exact ⟨rfl, V0⟩
set_option maxHeartbeats 4000000 in
set_option maxRecDepth 100000 in
theorem szArith_no (s0 : Int) (s1 : Int) (s2 : Int) (a3 : Option Addr) (n3 c3 : Nat) (a4 : Option Addr) (n4 c4 : Nat) (left : Int) (w : World) (hn3 : (n3 : Int) ≤ 9223372036854775807) (hn4 : (n4 : Int) ≤ 9223372036854775807) (hz : 0 ≤ left) (h0 : left ≤ 1048576) (h1 : ¬ (n3 : Int) + (n4 : Int) ≤ left) :
    Calls Try.prog 12 #[.agg #[.int .i64 s0, .int .i64 s1, .int .i64 s2, .slice a3 n3 c3, .slice a4 n4 c4], .int .i64 left] w fun e w' => e = .returned (.int .i64 (-1)) ∧ Below w.heap.size w w' := by
  by_cases q0 : ¬ ((n3 : Int) : Int) ≤ left
  · go_enter Try.func12, Try.ntmps12
    go_wp2_with fail
    have V0 : Below w.heap.size w (w.alloc (.cells #[.int .i64 s0, .int .i64 s1, .int .i64 s2, .slice a3 n3 c3, .slice a4 n4 c4] 25)) := (Below.refl _ w).alloc (Nat.le_refl w.heap.size) _
    refine (szGateS_no _ _ _ (left) _ (by omega) (by omega) (by omega)).mono ?_; rintro e w' ⟨rfl, rfl⟩
    go_wp2
    go_ret
    exact ⟨rfl, V0⟩
  go_enter Try.func12, Try.ntmps12
  go_wp2_with fail
  have V0 : Below w.heap.size w (w.alloc (.cells #[.int .i64 s0, .int .i64 s1, .int .i64 s2, .slice a3 n3 c3, .slice a4 n4 c4] 25)) := (Below.refl _ w).alloc (Nat.le_refl w.heap.size) _
  refine (szGateS_yes _ _ _ (left) _ (by omega) (by omega) (by omega)).mono ?_; rintro e w' ⟨rfl, rfl⟩
  go_wp2_with fail
  refine (szIntS_no _ _ _ (left - n3) _ (by omega) (by omega) (by omega)).mono ?_; rintro e w' ⟨rfl, rfl⟩
  go_wp2
  go_ret
  exact ⟨rfl, V0⟩
set_option maxHeartbeats 4000000 in
set_option maxRecDepth 100000 in
theorem eqArith_same (s0 : Int) (s1 : Int) (s2 : Int) (a3 : Option Addr) (n3 c3 : Nat) (b3 : Option Addr) (m3 d3 : Nat) (l3 : List Int) (a4 : Option Addr) (n4 c4 : Nat) (b4 : Option Addr) (m4 d4 : Nat) (l4 : List Int) (w : World) (h3 : Flat 3 w a3 n3 c3 l3) (g3 : Flat 3 w b3 m3 d3 l3) (h4 : Ints w a4 n4 c4 l4) (g4 : Ints w b4 m4 d4 l4) :
    Calls Try.prog 17 #[.agg #[.int .i64 s0, .int .i64 s1, .int .i64 s2, .slice a3 n3 c3, .slice a4 n4 c4], .agg #[.int .i64 s0, .int .i64 s1, .int .i64 s2, .slice b3 m3 d3, .slice b4 m4 d4]] w fun e w' => e = .returned (.bool true) ∧ Below w.heap.size w w' := by
  have z0 : ((s0 != s0) : Bool) = false := by simp
  have z1 : ((s1 != s1) : Bool) = false := by simp
  have z2 : ((s2 != s2) : Bool) = false := by simp
  go_enter Try.func17, Try.ntmps17
  go_wp2_with fail
  have V0 : Below w.heap.size w ((w.alloc (.cells #[.int .i64 s0, .int .i64 s1, .int .i64 s2, .slice a3 n3 c3, .slice a4 n4 c4] 31)).alloc (.cells #[.int .i64 s0, .int .i64 s1, .int .i64 s2, .slice b3 m3 d3, .slice b4 m4 d4] 31)) := ((Below.refl _ w).alloc (Nat.le_refl w.heap.size) _).alloc (by simp) _
  have P0 : Blk ((w.alloc (.cells #[.int .i64 s0, .int .i64 s1, .int .i64 s2, .slice a3 n3 c3, .slice a4 n4 c4] 31)).alloc (.cells #[.int .i64 s0, .int .i64 s1, .int .i64 s2, .slice b3 m3 d3, .slice b4 m4 d4] 31)) w.heap.size 31 #[.int .i64 s0, .int .i64 s1, .int .i64 s2, .slice a3 n3 c3, .slice a4 n4 c4] := (Blk.new w _ _).alloc _
  have R0 : Blk ((w.alloc (.cells #[.int .i64 s0, .int .i64 s1, .int .i64 s2, .slice a3 n3 c3, .slice a4 n4 c4] 31)).alloc (.cells #[.int .i64 s0, .int .i64 s1, .int .i64 s2, .slice b3 m3 d3, .slice b4 m4 d4] 31)) (w.heap.size + 1) 31 #[.int .i64 s0, .int .i64 s1, .int .i64 s2, .slice b3 m3 d3, .slice b4 m4 d4] := by simpa using (Blk.new (w.alloc _) 31 #[.int .i64 s0, .int .i64 s1, .int .i64 s2, .slice b3 m3 d3, .slice b4 m4 d4] : Blk ((w.alloc (.cells #[.int .i64 s0, .int .i64 s1, .int .i64 s2, .slice a3 n3 c3, .slice a4 n4 c4] 31)).alloc (.cells #[.int .i64 s0, .int .i64 s1, .int .i64 s2, .slice b3 m3 d3, .slice b4 m4 d4] 31)) _ _ _)
  generalize ((w.alloc (.cells #[.int .i64 s0, .int .i64 s1, .int .i64 s2, .slice a3 n3 c3, .slice a4 n4 c4] 31)).alloc (.cells #[.int .i64 s0, .int .i64 s1, .int .i64 s2, .slice b3 m3 d3, .slice b4 m4 d4] 31)) = w0 at *
  refine (eqGateS_b _ _ _ _ _ _ l3 _ (h3.below V0) (g3.below V0)).mono ?_; rintro e w1 ⟨rfl, u0⟩
  have V1 := V0.trans (u0.mono V0.size)
  have P1 := P0.below u0
  have R1 := R0.below u0
  clear u0 V0 P0 R0
  have x4 : w1.cell? ⟨w.heap.size, 4, none⟩ = some (.slice a4 n4 c4) := P1.cell 4
  have y4 : w1.cell? ⟨w.heap.size + 1, 4, none⟩ = some (.slice b4 m4 d4) := R1.cell 4
  go_wp2_with fail
  clear x4 y4
  refine (eqIntS_b _ _ _ _ _ _ l4 _ (h4.below V1) (g4.below V1)).mono ?_; rintro e w2 ⟨rfl, u1⟩
  have V2 := V1.trans (u1.mono V1.size)
  have P2 := P1.below u1
  have R2 := R1.below u1
  clear u1 V1 P1 R1
  go_wp2
  go_ret
  exact ⟨rfl, V2⟩
set_option maxHeartbeats 4000000 in
set_option maxRecDepth 100000 in
theorem markArith_any (s0 : Int) (s1 : Int) (s2 : Int) (a3 : Option Addr) (n3 c3 : Nat) (l3 : List Int) (a4 : Option Addr) (n4 c4 : Nat) (l4 : List Int) (B3 : Nat) (B4 : Nat) (k0 : Int) (w : World) (h3 : OwnF 3 eGate w B3 a3 n3 c3 l3) (h4 : Own w B4 a4 n4 c4 l4) (D3_4 : Disj (foot a3 c3) (foot a4 c4)) (hk : 0 ≤ k0) (hk2 : k0 + 3 * (n3 : Int) + (n4 : Int) ≤ 4000000000000000000) :
    Calls Try.prog 21 #[.agg #[.int .i64 s0, .int .i64 s1, .int .i64 s2, .slice a3 n3 c3, .slice a4 n4 c4], .int .i64 k0] w fun e w' => e = .returned (.int .i64 (k0 + 3 * (n3 : Int) + (n4 : Int))) ∧ (∃ l, OwnF 3 eGate w' B3 a3 n3 c3 l ∧ UpFrom (k0) l) ∧ (∃ l, Own w' B4 a4 n4 c4 l ∧ UpFrom (k0 + 3 * (n3 : Int)) l) ∧ Only (foot a3 c3 ++ foot a4 c4) w w' := by
  have Q3 := Lib.hid h3.feet
  have Q4 := Lib.hid h4.feet
  have E3_4 := Lib.hid D3_4
  clear D3_4
  go_enter Try.func21, Try.ntmps21
  go_wp2_with fail
  have G0 : Only (foot a3 c3 ++ foot a4 c4) w (w.alloc (.cells #[.int .i64 s0, .int .i64 s1, .int .i64 s2, .slice a3 n3 c3, .slice a4 n4 c4] 31)) := (Only.refl _ _).alloc _
  have P0 : Blk (w.alloc (.cells #[.int .i64 s0, .int .i64 s1, .int .i64 s2, .slice a3 n3 c3, .slice a4 n4 c4] 31)) w.heap.size 31 #[.int .i64 s0, .int .i64 s1, .int .i64 s2, .slice a3 n3 c3, .slice a4 n4 c4] := Blk.new w _ _
  have h3 := h3.below ((Below.refl w.heap.size w).alloc (Nat.le_refl _) (.cells #[.int .i64 s0, .int .i64 s1, .int .i64 s2, .slice a3 n3 c3, .slice a4 n4 c4] 31))
  have h4 := h4.below ((Below.refl w.heap.size w).alloc (Nat.le_refl _) (.cells #[.int .i64 s0, .int .i64 s1, .int .i64 s2, .slice a3 n3 c3, .slice a4 n4 c4] 31))
  generalize (w.alloc (.cells #[.int .i64 s0, .int .i64 s1, .int .i64 s2, .slice a3 n3 c3, .slice a4 n4 c4] 31)) = w0 at *
  refine (markGateS_o _ _ _ _ _ (k0) _ h3 (by omega) (by omega)).mono ?_; rintro e w1 ⟨rfl, ⟨L3, h3, U3⟩, u0⟩
  replace U3 := Lib.hid U3
  replace h4 := h4.only u0 E3_4.out.symm
  have P1 := P0.only u0 (fun hm => by have := Q3.out _ hm; omega)
  have G1 := G0.trans (u0.more (fun k hk => by simp [hk]))
  clear u0 P0 G0
  have y4 : w1.cell? ⟨w.heap.size, 4, none⟩ = some (.slice a4 n4 c4) := P1.cell 4
  go_wp2_with fail
  clear y4
  refine (markIntS_o _ _ _ _ _ (k0 + 3 * (n3 : Int)) _ h4 (by omega) (by omega)).mono ?_; rintro e w2 ⟨rfl, ⟨L4, h4, U4⟩, u1⟩
  replace U4 := Lib.hid U4
  replace h3 := h3.only u1 E3_4.out
  have P2 := P1.only u1 (fun hm => by have := Q4.out _ hm; omega)
  have G2 := G1.trans (u1.more (fun k hk => by simp [hk]))
  clear u1 P1 G1
  go_wp2
  go_ret
  exact ⟨rfl, ⟨_, h3, U3.out⟩, ⟨_, h4, U4.out⟩, G2⟩
end Go.Proofs.Ytjnblfnfegjbfaa
