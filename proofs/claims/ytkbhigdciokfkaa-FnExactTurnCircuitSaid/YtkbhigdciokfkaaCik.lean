/- Circuits of bits: the laws' own helpers. -/
import Derived.Test.YtkbhigdciokfkaaArGates
namespace Go.Proofs.Ytkbhigdciokfkaa
open Go.RowKit
set_option maxHeartbeats 4000000 in
set_option maxRecDepth 100000 in
theorem eqCircuit_same (s0 : Int) (s1 : Int) (a2 : Option Addr) (n2 c2 : Nat) (b2 : Option Addr) (m2 d2 : Nat) (l2 : List Int) (a3 : Option Addr) (n3 c3 : Nat) (b3 : Option Addr) (m3 d3 : Nat) (l3 : List Int) (w : World) (h2 : Flat 3 w a2 n2 c2 l2) (g2 : Flat 3 w b2 m2 d2 l2) (h3 : Ints w a3 n3 c3 l3) (g3 : Ints w b3 m3 d3 l3) :
    Calls Try.prog 15 #[.agg #[.int .i64 s0, .int .i64 s1, .slice a2 n2 c2, .slice a3 n3 c3], .agg #[.int .i64 s0, .int .i64 s1, .slice b2 m2 d2, .slice b3 m3 d3]] w fun e w' => e = .returned (.bool true) ∧ Below w.heap.size w w' := by
  have z0 : ((s0 != s0) : Bool) = false := by simp
  have z1 : ((s1 != s1) : Bool) = false := by simp
  go_enter Try.func15, Try.ntmps15
  go_wp2_with fail
  have V0 : Below w.heap.size w ((w.alloc (.cells #[.int .i64 s0, .int .i64 s1, .slice a2 n2 c2, .slice a3 n3 c3] 25)).alloc (.cells #[.int .i64 s0, .int .i64 s1, .slice b2 m2 d2, .slice b3 m3 d3] 25)) := ((Below.refl _ w).alloc (Nat.le_refl w.heap.size) _).alloc (by simp) _
  have P0 : Blk ((w.alloc (.cells #[.int .i64 s0, .int .i64 s1, .slice a2 n2 c2, .slice a3 n3 c3] 25)).alloc (.cells #[.int .i64 s0, .int .i64 s1, .slice b2 m2 d2, .slice b3 m3 d3] 25)) w.heap.size 25 #[.int .i64 s0, .int .i64 s1, .slice a2 n2 c2, .slice a3 n3 c3] := (Blk.new w _ _).alloc _
  have R0 : Blk ((w.alloc (.cells #[.int .i64 s0, .int .i64 s1, .slice a2 n2 c2, .slice a3 n3 c3] 25)).alloc (.cells #[.int .i64 s0, .int .i64 s1, .slice b2 m2 d2, .slice b3 m3 d3] 25)) (w.heap.size + 1) 25 #[.int .i64 s0, .int .i64 s1, .slice b2 m2 d2, .slice b3 m3 d3] := by simpa using (Blk.new (w.alloc _) 25 #[.int .i64 s0, .int .i64 s1, .slice b2 m2 d2, .slice b3 m3 d3] : Blk ((w.alloc (.cells #[.int .i64 s0, .int .i64 s1, .slice a2 n2 c2, .slice a3 n3 c3] 25)).alloc (.cells #[.int .i64 s0, .int .i64 s1, .slice b2 m2 d2, .slice b3 m3 d3] 25)) _ _ _)
  generalize ((w.alloc (.cells #[.int .i64 s0, .int .i64 s1, .slice a2 n2 c2, .slice a3 n3 c3] 25)).alloc (.cells #[.int .i64 s0, .int .i64 s1, .slice b2 m2 d2, .slice b3 m3 d3] 25)) = w0 at *
  refine (eqGateS_b _ _ _ _ _ _ l2 _ (h2.below V0) (g2.below V0)).mono ?_; rintro e w1 ⟨rfl, u0⟩
  have V1 := V0.trans (u0.mono V0.size)
  have P1 := P0.below u0
  have R1 := R0.below u0
  clear u0 V0 P0 R0
  have x3 : w1.cell? ⟨w.heap.size, 3, none⟩ = some (.slice a3 n3 c3) := P1.cell 3
  have y3 : w1.cell? ⟨w.heap.size + 1, 3, none⟩ = some (.slice b3 m3 d3) := R1.cell 3
  go_wp2_with fail
  clear x3 y3
  refine (eqIntS_b _ _ _ _ _ _ l3 _ (h3.below V1) (g3.below V1)).mono ?_; rintro e w2 ⟨rfl, u1⟩
  have V2 := V1.trans (u1.mono V1.size)
  have P2 := P1.below u1
  have R2 := R1.below u1
  clear u1 V1 P1 R1
  go_wp2
  go_ret
  exact ⟨rfl, V2⟩
set_option maxHeartbeats 4000000 in
set_option maxRecDepth 100000 in
theorem markCircuit_any (s0 : Int) (s1 : Int) (a2 : Option Addr) (n2 c2 : Nat) (l2 : List Int) (a3 : Option Addr) (n3 c3 : Nat) (l3 : List Int) (B2 : Nat) (B3 : Nat) (k0 : Int) (w : World) (h2 : OwnF 3 eGate w B2 a2 n2 c2 l2) (h3 : Own w B3 a3 n3 c3 l3) (D2_3 : Disj (foot a2 c2) (foot a3 c3)) (hk : 0 ≤ k0) (hk2 : k0 + 3 * (n2 : Int) + (n3 : Int) ≤ 4000000000000000000) :
    Calls Try.prog 16 #[.agg #[.int .i64 s0, .int .i64 s1, .slice a2 n2 c2, .slice a3 n3 c3], .int .i64 k0] w fun e w' => e = .returned (.int .i64 (k0 + 3 * (n2 : Int) + (n3 : Int))) ∧ (∃ l, OwnF 3 eGate w' B2 a2 n2 c2 l ∧ UpFrom (k0) l) ∧ (∃ l, Own w' B3 a3 n3 c3 l ∧ UpFrom (k0 + 3 * (n2 : Int)) l) ∧ Only (foot a2 c2 ++ foot a3 c3) w w' := by
  have Q2 := Lib.hid h2.feet
  have Q3 := Lib.hid h3.feet
  have E2_3 := Lib.hid D2_3
  clear D2_3
  go_enter Try.func16, Try.ntmps16
  go_wp2_with fail
  have G0 : Only (foot a2 c2 ++ foot a3 c3) w (w.alloc (.cells #[.int .i64 s0, .int .i64 s1, .slice a2 n2 c2, .slice a3 n3 c3] 25)) := (Only.refl _ _).alloc _
  have P0 : Blk (w.alloc (.cells #[.int .i64 s0, .int .i64 s1, .slice a2 n2 c2, .slice a3 n3 c3] 25)) w.heap.size 25 #[.int .i64 s0, .int .i64 s1, .slice a2 n2 c2, .slice a3 n3 c3] := Blk.new w _ _
  have h2 := h2.below ((Below.refl w.heap.size w).alloc (Nat.le_refl _) (.cells #[.int .i64 s0, .int .i64 s1, .slice a2 n2 c2, .slice a3 n3 c3] 25))
  have h3 := h3.below ((Below.refl w.heap.size w).alloc (Nat.le_refl _) (.cells #[.int .i64 s0, .int .i64 s1, .slice a2 n2 c2, .slice a3 n3 c3] 25))
  generalize (w.alloc (.cells #[.int .i64 s0, .int .i64 s1, .slice a2 n2 c2, .slice a3 n3 c3] 25)) = w0 at *
  refine (markGateS_o _ _ _ _ _ (k0) _ h2 (by omega) (by omega)).mono ?_; rintro e w1 ⟨rfl, ⟨L2, h2, U2⟩, u0⟩
  replace U2 := Lib.hid U2
  replace h3 := h3.only u0 E2_3.out.symm
  have P1 := P0.only u0 (fun hm => by have := Q2.out _ hm; omega)
  have G1 := G0.trans (u0.more (fun k hk => by simp [hk]))
  clear u0 P0 G0
  have y3 : w1.cell? ⟨w.heap.size, 3, none⟩ = some (.slice a3 n3 c3) := P1.cell 3
  go_wp2_with fail
  clear y3
  refine (markIntS_o _ _ _ _ _ (k0 + 3 * (n2 : Int)) _ h3 (by omega) (by omega)).mono ?_; rintro e w2 ⟨rfl, ⟨L3, h3, U3⟩, u1⟩
  replace U3 := Lib.hid U3
  replace h2 := h2.only u1 E2_3.out
  have P2 := P1.only u1 (fun hm => by have := Q3.out _ hm; omega)
  have G2 := G1.trans (u1.more (fun k hk => by simp [hk]))
  clear u1 P1 G1
  go_wp2
  go_ret
  exact ⟨rfl, ⟨_, h2, U2.out⟩, ⟨_, h3, U3.out⟩, G2⟩
set_option maxHeartbeats 4000000 in
set_option maxRecDepth 100000 in
theorem heldCircuit_any (s0 : Int) (s1 : Int) (a2 : Option Addr) (n2 c2 : Nat) (l2 : List Int) (a3 : Option Addr) (n3 c3 : Nat) (l3 : List Int) (k0 : Int) (w : World) (h2 : Flat 3 w a2 n2 c2 l2) (h3 : Ints w a3 n3 c3 l3) (U2 : UpFrom (k0) l2) (U3 : UpFrom (k0 + 3 * (n2 : Int)) l3) (hk : 0 ≤ k0) (hk2 : k0 + 3 * (n2 : Int) + (n3 : Int) ≤ 4000000000000000000) :
    Calls Try.prog 17 #[.agg #[.int .i64 s0, .int .i64 s1, .slice a2 n2 c2, .slice a3 n3 c3], .int .i64 k0] w fun e w' => e = .returned (.int .i64 (k0 + 3 * (n2 : Int) + (n3 : Int))) ∧ Below w.heap.size w w' := by
  replace U2 := Lib.hid U2
  replace U3 := Lib.hid U3
  go_enter Try.func17, Try.ntmps17
  go_wp2_with fail
  have V0 : Below w.heap.size w (w.alloc (.cells #[.int .i64 s0, .int .i64 s1, .slice a2 n2 c2, .slice a3 n3 c3] 25)) := (Below.refl _ w).alloc (Nat.le_refl w.heap.size) _
  have P0 : Blk (w.alloc (.cells #[.int .i64 s0, .int .i64 s1, .slice a2 n2 c2, .slice a3 n3 c3] 25)) w.heap.size 25 #[.int .i64 s0, .int .i64 s1, .slice a2 n2 c2, .slice a3 n3 c3] := Blk.new w _ _
  generalize (w.alloc (.cells #[.int .i64 s0, .int .i64 s1, .slice a2 n2 c2, .slice a3 n3 c3] 25)) = w0 at *
  refine (heldGateS_b _ _ _ _ (k0) _ (h2.below V0) U2.out (by omega) (by omega)).mono ?_; rintro e w1 ⟨rfl, u0⟩
  have V1 := V0.trans (u0.mono V0.size)
  have P1 := P0.below u0
  clear u0 V0 P0
  have y3 : w1.cell? ⟨w.heap.size, 3, none⟩ = some (.slice a3 n3 c3) := P1.cell 3
  go_wp2_with fail
  clear y3
  refine (heldIntS_b _ _ _ _ (k0 + 3 * (n2 : Int)) _ (h3.below V1) U3.out (by omega) (by omega)).mono ?_; rintro e w2 ⟨rfl, u1⟩
  have V2 := V1.trans (u1.mono V1.size)
  have P2 := P1.below u1
  clear u1 V1 P1
  go_wp2
  go_ret
  exact ⟨rfl, V2⟩
end Go.Proofs.Ytkbhigdciokfkaa
