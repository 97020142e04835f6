/- Messages: the laws' own helpers. -/
import Derived.Test.YtlmdckcohoddnaaDoorKinds
namespace Go.Proofs.YtlmdckcohoddnaaDoor
open Go.RowKit
set_option maxHeartbeats 4000000 in
set_option maxRecDepth 100000 in
theorem toMessage_any (s0 : Int) (s1 : Int) (a2 : Option Addr) (n2 c2 : Nat) (l2 : List Int) (w : World) (h2 : Ints w a2 n2 c2 l2) (hs2 : n2 ≤ 1048576) :
    Calls Tryd.prog 38 #[.agg #[.int .i64 s0, .int .i64 s1, .slice a2 n2 c2]] w fun e w' => ∃ b2 d2, e = .returned (.agg #[.int .i64 s0, .int .i64 s1, .slice b2 n2 d2]) ∧ Own w' w.heap.size b2 n2 d2 l2 ∧ Below w.heap.size w w' := by
  go_enter Tryd.func38, Tryd.ntmps38
  go_wp2_with fail
  have V0 : Below w.heap.size w (((w.alloc (.cells #[.int .i64 s0, .int .i64 s1, .slice a2 n2 c2] 53)).alloc (.cells #[.int .i64 0, .int .i64 0, .slice none 0 0] 44)).alloc (.cells #[.int .i64 s0, .int .i64 s1, .slice none 0 0] 44)) := ((((Below.refl _ w).alloc (Nat.le_refl w.heap.size) _).alloc (by simp) _).alloc (by simp; omega) _)
  have P0 : Blk (((w.alloc (.cells #[.int .i64 s0, .int .i64 s1, .slice a2 n2 c2] 53)).alloc (.cells #[.int .i64 0, .int .i64 0, .slice none 0 0] 44)).alloc (.cells #[.int .i64 s0, .int .i64 s1, .slice none 0 0] 44)) w.heap.size 53 #[.int .i64 s0, .int .i64 s1, .slice a2 n2 c2] := ((Blk.new w _ _).alloc _).alloc _
  have R0 : Blk (((w.alloc (.cells #[.int .i64 s0, .int .i64 s1, .slice a2 n2 c2] 53)).alloc (.cells #[.int .i64 0, .int .i64 0, .slice none 0 0] 44)).alloc (.cells #[.int .i64 s0, .int .i64 s1, .slice none 0 0] 44)) (w.heap.size + 1) 44 #[.int .i64 0, .int .i64 0, .slice none 0 0] := by simpa using ((Blk.new (w.alloc _) 44 #[.int .i64 0, .int .i64 0, .slice none 0 0]).alloc _ : Blk (((w.alloc (.cells #[.int .i64 s0, .int .i64 s1, .slice a2 n2 c2] 53)).alloc (.cells #[.int .i64 0, .int .i64 0, .slice none 0 0] 44)).alloc (.cells #[.int .i64 s0, .int .i64 s1, .slice none 0 0] 44)) _ _ _)
  have O0 : Blk (((w.alloc (.cells #[.int .i64 s0, .int .i64 s1, .slice a2 n2 c2] 53)).alloc (.cells #[.int .i64 0, .int .i64 0, .slice none 0 0] 44)).alloc (.cells #[.int .i64 s0, .int .i64 s1, .slice none 0 0] 44)) (w.heap.size + 2) 44 #[.int .i64 s0, .int .i64 s1, .slice none 0 0] := by simpa using (Blk.new ((w.alloc _).alloc _) 44 #[.int .i64 s0, .int .i64 s1, .slice none 0 0] : Blk (((w.alloc (.cells #[.int .i64 s0, .int .i64 s1, .slice a2 n2 c2] 53)).alloc (.cells #[.int .i64 0, .int .i64 0, .slice none 0 0] 44)).alloc (.cells #[.int .i64 s0, .int .i64 s1, .slice none 0 0] 44)) _ _ _)
  have S0 : w.heap.size + 3 ≤ (((w.alloc (.cells #[.int .i64 s0, .int .i64 s1, .slice a2 n2 c2] 53)).alloc (.cells #[.int .i64 0, .int .i64 0, .slice none 0 0] 44)).alloc (.cells #[.int .i64 s0, .int .i64 s1, .slice none 0 0] 44)).heap.size := by simp
  generalize (((w.alloc (.cells #[.int .i64 s0, .int .i64 s1, .slice a2 n2 c2] 53)).alloc (.cells #[.int .i64 0, .int .i64 0, .slice none 0 0] 44)).alloc (.cells #[.int .i64 s0, .int .i64 s1, .slice none 0 0] 44)) = w0 at *
  refine (toIntS_any _ _ _ l2 _ (h2.below V0) hs2).mono ?_; rintro e w1 ⟨b2, d2, rfl, o2, u2⟩
  have Q2 := Lib.hid o2.feet
  have V1 := V0.trans (u2.mono V0.size)
  have S1 : w.heap.size + 3 ≤ w1.heap.size := Nat.le_trans S0 u2.size
  have T1 := u2.size
  have P1 := P0.below u2
  have R1 := R0.below u2
  have O1 := O0.below u2
  clear u2 V0 P0 R0 O0
  have x0 : w1.cell? ⟨w.heap.size + 2, 0, none⟩ = some (.int .i64 s0) := O1.cell 0
  have f0 : w1.frozen? ⟨w.heap.size + 2, 0, none⟩ = false := O1.frozen 0
  have x1 : w1.cell? ⟨w.heap.size + 2, 1, none⟩ = some (.int .i64 s1) := O1.cell 1
  have f1 : w1.frozen? ⟨w.heap.size + 2, 1, none⟩ = false := O1.frozen 1
  have x2 : w1.cell? ⟨w.heap.size + 2, 2, none⟩ = some (.slice none 0 0) := O1.cell 2
  have f2 : w1.frozen? ⟨w.heap.size + 2, 2, none⟩ = false := O1.frozen 2
  have r0 : w1.cell? ⟨w.heap.size + 1, 0, none⟩ = some (.int .i64 0) := R1.cell 0
  have q0 : w1.frozen? ⟨w.heap.size + 1, 0, none⟩ = false := R1.frozen 0
  have r1 : w1.cell? ⟨w.heap.size + 1, 1, none⟩ = some (.int .i64 0) := R1.cell 1
  have q1 : w1.frozen? ⟨w.heap.size + 1, 1, none⟩ = false := R1.frozen 1
  have r2 : w1.cell? ⟨w.heap.size + 1, 2, none⟩ = some (.slice none 0 0) := R1.cell 2
  have q2 : w1.frozen? ⟨w.heap.size + 1, 2, none⟩ = false := R1.frozen 2
  go_wp2
  have G := (((((Only.refl [w.heap.size + 2, w.heap.size + 1] w1).setCell ⟨w.heap.size + 2, 2, none⟩ (.slice b2 n2 d2) (by simp)).setCell ⟨w.heap.size + 1, 0, none⟩ (.int .i64 s0) (by simp)).setCell ⟨w.heap.size + 1, 1, none⟩ (.int .i64 s1) (by simp)).setCell ⟨w.heap.size + 1, 2, none⟩ (.slice b2 n2 d2) (by simp))
  exact bodyPost_ret (v := .agg #[.int .i64 s0, .int .i64 s1, .slice b2 n2 d2]) (by simp [results, Tryd.results38, go_sem, r0, r1, r2]) rfl ⟨_, _, rfl, (o2.only G (fun k hk hk' => by have := Q2.out k hk; simp at hk'; omega)).lower (by omega), V1.trans (G.below V1.size (by simp))⟩
set_option maxHeartbeats 4000000 in
set_option maxRecDepth 100000 in
theorem szMessage_yes (s0 : Int) (s1 : Int) (a2 : Option Addr) (n2 c2 : Nat) (left : Int) (w : World) (hn2 : (n2 : Int) ≤ 9223372036854775807) (h0 : left ≤ 1048576) (h1 : (n2 : Int) ≤ left) :
    Calls Tryd.prog 36 #[.agg #[.int .i64 s0, .int .i64 s1, .slice a2 n2 c2], .int .i64 left] w fun e w' => e = .returned (.int .i64 (left - n2)) ∧ Below w.heap.size w w' := by
  go_enter Tryd.func36, Tryd.ntmps36
  go_wp2_with fail
  have V0 : Below w.heap.size w (w.alloc (.cells #[.int .i64 s0, .int .i64 s1, .slice a2 n2 c2] 53)) := (Below.refl _ w).alloc (Nat.le_refl w.heap.size) _
  refine (szIntS_yes _ _ _ (left) _ (by omega) (by omega) (by omega)).mono ?_; rintro e w' ⟨rfl, rfl⟩
  go_wp2
  go_ret
  exact ⟨rfl, V0⟩
set_option maxHeartbeats 4000000 in
set_option maxRecDepth 100000 in
theorem szMessage_no (s0 : Int) (s1 : Int) (a2 : Option Addr) (n2 c2 : Nat) (left : Int) (w : World) (hn2 : (n2 : Int) ≤ 9223372036854775807) (hz : 0 ≤ left) (h0 : left ≤ 1048576) (h1 : ¬ (n2 : Int) ≤ left) :
    Calls Tryd.prog 36 #[.agg #[.int .i64 s0, .int .i64 s1, .slice a2 n2 c2], .int .i64 left] w fun e w' => e = .returned (.int .i64 (-1)) ∧ Below w.heap.size w w' := by
  go_enter Tryd.func36, Tryd.ntmps36
  go_wp2_with fail
  have V0 : Below w.heap.size w (w.alloc (.cells #[.int .i64 s0, .int .i64 s1, .slice a2 n2 c2] 53)) := (Below.refl _ w).alloc (Nat.le_refl w.heap.size) _
  refine (szIntS_no _ _ _ (left) _ (by omega) (by omega) (by omega)).mono ?_; rintro e w' ⟨rfl, rfl⟩
  go_wp2
  go_ret
  exact ⟨rfl, V0⟩
set_option maxHeartbeats 4000000 in
set_option maxRecDepth 100000 in
theorem eqMessage_same (s0 : Int) (s1 : Int) (a2 : Option Addr) (n2 c2 : Nat) (b2 : Option Addr) (m2 d2 : Nat) (l2 : List Int) (w : World) (h2 : Ints w a2 n2 c2 l2) (g2 : Ints w b2 m2 d2 l2) :
    Calls Tryd.prog 28 #[.agg #[.int .i64 s0, .int .i64 s1, .slice a2 n2 c2], .agg #[.int .i64 s0, .int .i64 s1, .slice b2 m2 d2]] w fun e w' => e = .returned (.bool true) ∧ Below w.heap.size w w' := by
  have z0 : ((s0 != s0) : Bool) = false := by simp
  have z1 : ((s1 != s1) : Bool) = false := by simp
  go_enter Tryd.func28, Tryd.ntmps28
  go_wp2_with fail
  have V0 : Below w.heap.size w ((w.alloc (.cells #[.int .i64 s0, .int .i64 s1, .slice a2 n2 c2] 44)).alloc (.cells #[.int .i64 s0, .int .i64 s1, .slice b2 m2 d2] 44)) := ((Below.refl _ w).alloc (Nat.le_refl w.heap.size) _).alloc (by simp) _
  have P0 : Blk ((w.alloc (.cells #[.int .i64 s0, .int .i64 s1, .slice a2 n2 c2] 44)).alloc (.cells #[.int .i64 s0, .int .i64 s1, .slice b2 m2 d2] 44)) w.heap.size 44 #[.int .i64 s0, .int .i64 s1, .slice a2 n2 c2] := (Blk.new w _ _).alloc _
  have R0 : Blk ((w.alloc (.cells #[.int .i64 s0, .int .i64 s1, .slice a2 n2 c2] 44)).alloc (.cells #[.int .i64 s0, .int .i64 s1, .slice b2 m2 d2] 44)) (w.heap.size + 1) 44 #[.int .i64 s0, .int .i64 s1, .slice b2 m2 d2] := by simpa using (Blk.new (w.alloc _) 44 #[.int .i64 s0, .int .i64 s1, .slice b2 m2 d2] : Blk ((w.alloc (.cells #[.int .i64 s0, .int .i64 s1, .slice a2 n2 c2] 44)).alloc (.cells #[.int .i64 s0, .int .i64 s1, .slice b2 m2 d2] 44)) _ _ _)
  generalize ((w.alloc (.cells #[.int .i64 s0, .int .i64 s1, .slice a2 n2 c2] 44)).alloc (.cells #[.int .i64 s0, .int .i64 s1, .slice b2 m2 d2] 44)) = w0 at *
  refine (eqIntS_b _ _ _ _ _ _ l2 _ (h2.below V0) (g2.below V0)).mono ?_; rintro e w1 ⟨rfl, u0⟩
  have V1 := V0.trans (u0.mono V0.size)
  have P1 := P0.below u0
  have R1 := R0.below u0
  clear u0 V0 P0 R0
  go_wp2
  go_ret
  exact ⟨rfl, V1⟩
set_option maxHeartbeats 4000000 in
set_option maxRecDepth 100000 in
theorem markMessage_any (s0 : Int) (s1 : Int) (a2 : Option Addr) (n2 c2 : Nat) (l2 : List Int) (B2 : Nat) (k0 : Int) (w : World) (h2 : Own w B2 a2 n2 c2 l2)  (hk : 0 ≤ k0) (hk2 : k0 + (n2 : Int) ≤ 4000000000000000000) :
    Calls Tryd.prog 29 #[.agg #[.int .i64 s0, .int .i64 s1, .slice a2 n2 c2], .int .i64 k0] w fun e w' => e = .returned (.int .i64 (k0 + (n2 : Int))) ∧ (∃ l, Own w' B2 a2 n2 c2 l ∧ UpFrom (k0) l) ∧ Only (foot a2 c2) w w' := by
  have Q2 := Lib.hid h2.feet
  go_enter Tryd.func29, Tryd.ntmps29
  go_wp2_with fail
  have G0 : Only (foot a2 c2) w (w.alloc (.cells #[.int .i64 s0, .int .i64 s1, .slice a2 n2 c2] 44)) := (Only.refl _ _).alloc _
  have P0 : Blk (w.alloc (.cells #[.int .i64 s0, .int .i64 s1, .slice a2 n2 c2] 44)) w.heap.size 44 #[.int .i64 s0, .int .i64 s1, .slice a2 n2 c2] := Blk.new w _ _
  have h2 := h2.below ((Below.refl w.heap.size w).alloc (Nat.le_refl _) (.cells #[.int .i64 s0, .int .i64 s1, .slice a2 n2 c2] 44))
  generalize (w.alloc (.cells #[.int .i64 s0, .int .i64 s1, .slice a2 n2 c2] 44)) = w0 at *
  refine (markIntS_o _ _ _ _ _ (k0) _ h2 (by omega) (by omega)).mono ?_; rintro e w1 ⟨rfl, ⟨L2, h2, U2⟩, u0⟩
  replace U2 := Lib.hid U2
  have P1 := P0.only u0 (fun hm => by have := Q2.out _ hm; omega)
  have G1 := G0.trans (u0.more (fun k hk => by simp [hk]))
  clear u0 P0 G0
  go_wp2
  go_ret
  exact ⟨rfl, ⟨_, h2, U2.out⟩, G1⟩
set_option maxHeartbeats 4000000 in
set_option maxRecDepth 100000 in
theorem heldMessage_any (s0 : Int) (s1 : Int) (a2 : Option Addr) (n2 c2 : Nat) (l2 : List Int) (k0 : Int) (w : World) (h2 : Ints w a2 n2 c2 l2) (U2 : UpFrom (k0) l2) (hk : 0 ≤ k0) (hk2 : k0 + (n2 : Int) ≤ 4000000000000000000) :
    Calls Tryd.prog 30 #[.agg #[.int .i64 s0, .int .i64 s1, .slice a2 n2 c2], .int .i64 k0] w fun e w' => e = .returned (.int .i64 (k0 + (n2 : Int))) ∧ Below w.heap.size w w' := by
  replace U2 := Lib.hid U2
  go_enter Tryd.func30, Tryd.ntmps30
  go_wp2_with fail
  have V0 : Below w.heap.size w (w.alloc (.cells #[.int .i64 s0, .int .i64 s1, .slice a2 n2 c2] 44)) := (Below.refl _ w).alloc (Nat.le_refl w.heap.size) _
  have P0 : Blk (w.alloc (.cells #[.int .i64 s0, .int .i64 s1, .slice a2 n2 c2] 44)) w.heap.size 44 #[.int .i64 s0, .int .i64 s1, .slice a2 n2 c2] := Blk.new w _ _
  generalize (w.alloc (.cells #[.int .i64 s0, .int .i64 s1, .slice a2 n2 c2] 44)) = w0 at *
  refine (heldIntS_b _ _ _ _ (k0) _ (h2.below V0) U2.out (by omega) (by omega)).mono ?_; rintro e w1 ⟨rfl, u0⟩
  have V1 := V0.trans (u0.mono V0.size)
  have P1 := P0.below u0
  clear u0 V0 P0
  go_wp2
  go_ret
  exact ⟨rfl, V1⟩
end Go.Proofs.YtlmdckcohoddnaaDoor
