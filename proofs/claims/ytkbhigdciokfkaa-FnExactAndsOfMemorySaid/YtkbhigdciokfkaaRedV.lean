/- Valid circuits handed on. -/
import Derived.Test.YtkbhigdciokfkaaIsCi
namespace Go.Proofs.Ytkbhigdciokfkaa
open Go.RowKit
set_option maxHeartbeats 8000000 in
set_option maxRecDepth 100000 in
theorem valid_yes (i0 i1 : Int) (ga : Option Addr) (gn gc : Nat) (G : List Int) (oa : Option Addr) (on oc : Nat) (O : List Int) (w : World) (hG : Flat 3 w ga gn gc G) (hO : Ints w oa on oc O) (hv : ciB i0 i1 gn G O = true) :
    Calls Try.prog 44 #[.agg #[.int .i64 i0, .int .i64 i1, .slice ga gn gc, .slice oa on oc]] w fun e w' => e = .returned (.tuple #[.agg #[.int .i64 i0, .int .i64 i1, .slice ga gn gc, .slice oa on oc], .bool true]) ∧ Below w.heap.size w w' := by
  have V2 : Below w.heap.size w ((w.alloc (.cells #[.int .i64 i0, .int .i64 i1, .slice ga gn gc, .slice oa on oc] 25)).alloc (.cells #[.int .i64 0, .int .i64 0, .slice none 0 0, .slice none 0 0] 25)) := ((Below.refl _ _).alloc (Nat.le_refl _) _).alloc (by simp) _
  have P2 : Blk ((w.alloc (.cells #[.int .i64 i0, .int .i64 i1, .slice ga gn gc, .slice oa on oc] 25)).alloc (.cells #[.int .i64 0, .int .i64 0, .slice none 0 0, .slice none 0 0] 25)) w.heap.size 25 #[.int .i64 i0, .int .i64 i1, .slice ga gn gc, .slice oa on oc] := (Blk.new w _ _).alloc _
  have R2 : Blk ((w.alloc (.cells #[.int .i64 i0, .int .i64 i1, .slice ga gn gc, .slice oa on oc] 25)).alloc (.cells #[.int .i64 0, .int .i64 0, .slice none 0 0, .slice none 0 0] 25)) (w.heap.size + 1) 25 #[.int .i64 0, .int .i64 0, .slice none 0 0, .slice none 0 0] := by simpa using (Blk.new (w.alloc (.cells #[.int .i64 i0, .int .i64 i1, .slice ga gn gc, .slice oa on oc] 25)) 25 #[.int .i64 0, .int .i64 0, .slice none 0 0, .slice none 0 0])
  go_enter Try.func44, Try.ntmps44
  go_wp2_with fail
  refine (IsCircuit_any _ _ _ _ _ G _ _ _ O _ (hG.below V2) (hO.below V2)).mono ?_; rintro e w3 ⟨rfl, u3⟩
  rw [hv]
  have V3 := V2.trans (u3.mono V2.size)
  have P3 := P2.below u3
  have R3 := R2.below u3
  have x0 : w3.cell? ⟨w.heap.size, 0, none⟩ = some (.int .i64 i0) := P3.cell 0
  have x1 : w3.cell? ⟨w.heap.size, 1, none⟩ = some (.int .i64 i1) := P3.cell 1
  have x2 : w3.cell? ⟨w.heap.size, 2, none⟩ = some (.slice ga gn gc) := P3.cell 2
  have x3 : w3.cell? ⟨w.heap.size, 3, none⟩ = some (.slice oa on oc) := P3.cell 3
  have r0 : w3.cell? ⟨w.heap.size + 1, 0, none⟩ = some (.int .i64 0) := R3.cell 0
  have q0 : w3.frozen? ⟨w.heap.size + 1, 0, none⟩ = false := R3.frozen 0
  have r1 : w3.cell? ⟨w.heap.size + 1, 1, none⟩ = some (.int .i64 0) := R3.cell 1
  have q1 : w3.frozen? ⟨w.heap.size + 1, 1, none⟩ = false := R3.frozen 1
  have r2 : w3.cell? ⟨w.heap.size + 1, 2, none⟩ = some (.slice none 0 0) := R3.cell 2
  have q2 : w3.frozen? ⟨w.heap.size + 1, 2, none⟩ = false := R3.frozen 2
  have r3 : w3.cell? ⟨w.heap.size + 1, 3, none⟩ = some (.slice none 0 0) := R3.cell 3
  have q3 : w3.frozen? ⟨w.heap.size + 1, 3, none⟩ = false := R3.frozen 3
  clear P2 R2 V2 u3 P3 R3
  go_wp2
  have GG := (((((Only.refl [w.heap.size + 1] w3).setCell ⟨w.heap.size + 1, 0, none⟩ (.int .i64 i0) (by simp)).setCell ⟨w.heap.size + 1, 1, none⟩ (.int .i64 i1) (by simp)).setCell ⟨w.heap.size + 1, 2, none⟩ (.slice ga gn gc) (by simp)).setCell ⟨w.heap.size + 1, 3, none⟩ (.slice oa on oc) (by simp))
  exact bodyPost_ret (v := .tuple #[.agg #[.int .i64 i0, .int .i64 i1, .slice ga gn gc, .slice oa on oc], .bool true]) (by simp [results, Try.results44, go_sem, r0, r1, r2, r3]) rfl ⟨rfl, V3.trans (GG.below V3.size (by simp))⟩
set_option maxHeartbeats 8000000 in
set_option maxRecDepth 100000 in
theorem valid_no (i0 i1 : Int) (ga : Option Addr) (gn gc : Nat) (G : List Int) (oa : Option Addr) (on oc : Nat) (O : List Int) (w : World) (hG : Flat 3 w ga gn gc G) (hO : Ints w oa on oc O) (hv : ciB i0 i1 gn G O = false) :
    Calls Try.prog 44 #[.agg #[.int .i64 i0, .int .i64 i1, .slice ga gn gc, .slice oa on oc]] w fun e w' => e = .returned (.tuple #[.agg #[.int .i64 0, .int .i64 0, .slice none 0 0, .slice none 0 0], .bool false]) ∧ Below w.heap.size w w' := by
  have V2 : Below w.heap.size w ((w.alloc (.cells #[.int .i64 i0, .int .i64 i1, .slice ga gn gc, .slice oa on oc] 25)).alloc (.cells #[.int .i64 0, .int .i64 0, .slice none 0 0, .slice none 0 0] 25)) := ((Below.refl _ _).alloc (Nat.le_refl _) _).alloc (by simp) _
  have P2 : Blk ((w.alloc (.cells #[.int .i64 i0, .int .i64 i1, .slice ga gn gc, .slice oa on oc] 25)).alloc (.cells #[.int .i64 0, .int .i64 0, .slice none 0 0, .slice none 0 0] 25)) w.heap.size 25 #[.int .i64 i0, .int .i64 i1, .slice ga gn gc, .slice oa on oc] := (Blk.new w _ _).alloc _
  have R2 : Blk ((w.alloc (.cells #[.int .i64 i0, .int .i64 i1, .slice ga gn gc, .slice oa on oc] 25)).alloc (.cells #[.int .i64 0, .int .i64 0, .slice none 0 0, .slice none 0 0] 25)) (w.heap.size + 1) 25 #[.int .i64 0, .int .i64 0, .slice none 0 0, .slice none 0 0] := by simpa using (Blk.new (w.alloc (.cells #[.int .i64 i0, .int .i64 i1, .slice ga gn gc, .slice oa on oc] 25)) 25 #[.int .i64 0, .int .i64 0, .slice none 0 0, .slice none 0 0])
  go_enter Try.func44, Try.ntmps44
  go_wp2_with fail
  refine (IsCircuit_any _ _ _ _ _ G _ _ _ O _ (hG.below V2) (hO.below V2)).mono ?_; rintro e w3 ⟨rfl, u3⟩
  rw [hv]
  have V3 := V2.trans (u3.mono V2.size)
  have P3 := P2.below u3
  have R3 := R2.below u3
  have r0 : w3.cell? ⟨w.heap.size + 1, 0, none⟩ = some (.int .i64 0) := R3.cell 0
  have q0 : w3.frozen? ⟨w.heap.size + 1, 0, none⟩ = false := R3.frozen 0
  have r1 : w3.cell? ⟨w.heap.size + 1, 1, none⟩ = some (.int .i64 0) := R3.cell 1
  have q1 : w3.frozen? ⟨w.heap.size + 1, 1, none⟩ = false := R3.frozen 1
  have r2 : w3.cell? ⟨w.heap.size + 1, 2, none⟩ = some (.slice none 0 0) := R3.cell 2
  have q2 : w3.frozen? ⟨w.heap.size + 1, 2, none⟩ = false := R3.frozen 2
  have r3 : w3.cell? ⟨w.heap.size + 1, 3, none⟩ = some (.slice none 0 0) := R3.cell 3
  have q3 : w3.frozen? ⟨w.heap.size + 1, 3, none⟩ = false := R3.frozen 3
  clear P2 R2 V2 u3 P3 R3
  go_wp2
  have GG := (((((Only.refl [w.heap.size + 1] w3).setCell ⟨w.heap.size + 1, 0, none⟩ (.int .i64 0) (by simp)).setCell ⟨w.heap.size + 1, 1, none⟩ (.int .i64 0) (by simp)).setCell ⟨w.heap.size + 1, 2, none⟩ (.slice none 0 0) (by simp)).setCell ⟨w.heap.size + 1, 3, none⟩ (.slice none 0 0) (by simp))
  exact bodyPost_ret (v := .tuple #[.agg #[.int .i64 0, .int .i64 0, .slice none 0 0, .slice none 0 0], .bool false]) (by simp [results, Try.results44, go_sem, r0, r1, r2, r3]) rfl ⟨rfl, V3.trans (GG.below V3.size (by simp))⟩
set_option maxHeartbeats 8000000 in
set_option maxRecDepth 100000 in
theorem ciIf_yes (i0 i1 : Int) (ga : Option Addr) (gn gc : Nat) (G : List Int) (oa : Option Addr) (on oc : Nat) (O : List Int) (w : World) (hG : Flat 3 w ga gn gc G) (hO : Ints w oa on oc O) (hv : ciB i0 i1 gn G O = true) :
    Calls Try.prog 94 #[.agg #[.int .i64 i0, .int .i64 i1, .slice ga gn gc, .slice oa on oc]] w fun e w' => e = .returned (.tuple #[.agg #[.int .i64 i0, .int .i64 i1, .slice ga gn gc, .slice oa on oc], .bool true]) ∧ Below w.heap.size w w' := by
  have V2 : Below w.heap.size w ((w.alloc (.cells #[.int .i64 i0, .int .i64 i1, .slice ga gn gc, .slice oa on oc] 25)).alloc (.cells #[.int .i64 0, .int .i64 0, .slice none 0 0, .slice none 0 0] 25)) := ((Below.refl _ _).alloc (Nat.le_refl _) _).alloc (by simp) _
  have P2 : Blk ((w.alloc (.cells #[.int .i64 i0, .int .i64 i1, .slice ga gn gc, .slice oa on oc] 25)).alloc (.cells #[.int .i64 0, .int .i64 0, .slice none 0 0, .slice none 0 0] 25)) w.heap.size 25 #[.int .i64 i0, .int .i64 i1, .slice ga gn gc, .slice oa on oc] := (Blk.new w _ _).alloc _
  have R2 : Blk ((w.alloc (.cells #[.int .i64 i0, .int .i64 i1, .slice ga gn gc, .slice oa on oc] 25)).alloc (.cells #[.int .i64 0, .int .i64 0, .slice none 0 0, .slice none 0 0] 25)) (w.heap.size + 1) 25 #[.int .i64 0, .int .i64 0, .slice none 0 0, .slice none 0 0] := by simpa using (Blk.new (w.alloc (.cells #[.int .i64 i0, .int .i64 i1, .slice ga gn gc, .slice oa on oc] 25)) 25 #[.int .i64 0, .int .i64 0, .slice none 0 0, .slice none 0 0])
  go_enter Try.func94, Try.ntmps94
  go_wp2_with fail
  refine (ciGood_any _ _ _ _ _ G _ _ _ O _ (hG.below V2) (hO.below V2)).mono ?_; rintro e w3 ⟨rfl, u3⟩
  rw [hv]
  have V3 := V2.trans (u3.mono V2.size)
  have P3 := P2.below u3
  have R3 := R2.below u3
  have x0 : w3.cell? ⟨w.heap.size, 0, none⟩ = some (.int .i64 i0) := P3.cell 0
  have x1 : w3.cell? ⟨w.heap.size, 1, none⟩ = some (.int .i64 i1) := P3.cell 1
  have x2 : w3.cell? ⟨w.heap.size, 2, none⟩ = some (.slice ga gn gc) := P3.cell 2
  have x3 : w3.cell? ⟨w.heap.size, 3, none⟩ = some (.slice oa on oc) := P3.cell 3
  have r0 : w3.cell? ⟨w.heap.size + 1, 0, none⟩ = some (.int .i64 0) := R3.cell 0
  have q0 : w3.frozen? ⟨w.heap.size + 1, 0, none⟩ = false := R3.frozen 0
  have r1 : w3.cell? ⟨w.heap.size + 1, 1, none⟩ = some (.int .i64 0) := R3.cell 1
  have q1 : w3.frozen? ⟨w.heap.size + 1, 1, none⟩ = false := R3.frozen 1
  have r2 : w3.cell? ⟨w.heap.size + 1, 2, none⟩ = some (.slice none 0 0) := R3.cell 2
  have q2 : w3.frozen? ⟨w.heap.size + 1, 2, none⟩ = false := R3.frozen 2
  have r3 : w3.cell? ⟨w.heap.size + 1, 3, none⟩ = some (.slice none 0 0) := R3.cell 3
  have q3 : w3.frozen? ⟨w.heap.size + 1, 3, none⟩ = false := R3.frozen 3
  clear P2 R2 V2 u3 P3 R3
  go_wp2
  have GG := (((((Only.refl [w.heap.size + 1] w3).setCell ⟨w.heap.size + 1, 0, none⟩ (.int .i64 i0) (by simp)).setCell ⟨w.heap.size + 1, 1, none⟩ (.int .i64 i1) (by simp)).setCell ⟨w.heap.size + 1, 2, none⟩ (.slice ga gn gc) (by simp)).setCell ⟨w.heap.size + 1, 3, none⟩ (.slice oa on oc) (by simp))
  exact bodyPost_ret (v := .tuple #[.agg #[.int .i64 i0, .int .i64 i1, .slice ga gn gc, .slice oa on oc], .bool true]) (by simp [results, Try.results94, go_sem, r0, r1, r2, r3]) rfl ⟨rfl, V3.trans (GG.below V3.size (by simp))⟩
set_option maxHeartbeats 8000000 in
set_option maxRecDepth 100000 in
theorem ciIf_no (i0 i1 : Int) (ga : Option Addr) (gn gc : Nat) (G : List Int) (oa : Option Addr) (on oc : Nat) (O : List Int) (w : World) (hG : Flat 3 w ga gn gc G) (hO : Ints w oa on oc O) (hv : ciB i0 i1 gn G O = false) :
    Calls Try.prog 94 #[.agg #[.int .i64 i0, .int .i64 i1, .slice ga gn gc, .slice oa on oc]] w fun e w' => e = .returned (.tuple #[.agg #[.int .i64 0, .int .i64 0, .slice none 0 0, .slice none 0 0], .bool false]) ∧ Below w.heap.size w w' := by
  have V2 : Below w.heap.size w ((w.alloc (.cells #[.int .i64 i0, .int .i64 i1, .slice ga gn gc, .slice oa on oc] 25)).alloc (.cells #[.int .i64 0, .int .i64 0, .slice none 0 0, .slice none 0 0] 25)) := ((Below.refl _ _).alloc (Nat.le_refl _) _).alloc (by simp) _
  have P2 : Blk ((w.alloc (.cells #[.int .i64 i0, .int .i64 i1, .slice ga gn gc, .slice oa on oc] 25)).alloc (.cells #[.int .i64 0, .int .i64 0, .slice none 0 0, .slice none 0 0] 25)) w.heap.size 25 #[.int .i64 i0, .int .i64 i1, .slice ga gn gc, .slice oa on oc] := (Blk.new w _ _).alloc _
  have R2 : Blk ((w.alloc (.cells #[.int .i64 i0, .int .i64 i1, .slice ga gn gc, .slice oa on oc] 25)).alloc (.cells #[.int .i64 0, .int .i64 0, .slice none 0 0, .slice none 0 0] 25)) (w.heap.size + 1) 25 #[.int .i64 0, .int .i64 0, .slice none 0 0, .slice none 0 0] := by simpa using (Blk.new (w.alloc (.cells #[.int .i64 i0, .int .i64 i1, .slice ga gn gc, .slice oa on oc] 25)) 25 #[.int .i64 0, .int .i64 0, .slice none 0 0, .slice none 0 0])
  go_enter Try.func94, Try.ntmps94
  go_wp2_with fail
  refine (ciGood_any _ _ _ _ _ G _ _ _ O _ (hG.below V2) (hO.below V2)).mono ?_; rintro e w3 ⟨rfl, u3⟩
  rw [hv]
  have V3 := V2.trans (u3.mono V2.size)
  have P3 := P2.below u3
  have R3 := R2.below u3
  have r0 : w3.cell? ⟨w.heap.size + 1, 0, none⟩ = some (.int .i64 0) := R3.cell 0
  have q0 : w3.frozen? ⟨w.heap.size + 1, 0, none⟩ = false := R3.frozen 0
  have r1 : w3.cell? ⟨w.heap.size + 1, 1, none⟩ = some (.int .i64 0) := R3.cell 1
  have q1 : w3.frozen? ⟨w.heap.size + 1, 1, none⟩ = false := R3.frozen 1
  have r2 : w3.cell? ⟨w.heap.size + 1, 2, none⟩ = some (.slice none 0 0) := R3.cell 2
  have q2 : w3.frozen? ⟨w.heap.size + 1, 2, none⟩ = false := R3.frozen 2
  have r3 : w3.cell? ⟨w.heap.size + 1, 3, none⟩ = some (.slice none 0 0) := R3.cell 3
  have q3 : w3.frozen? ⟨w.heap.size + 1, 3, none⟩ = false := R3.frozen 3
  clear P2 R2 V2 u3 P3 R3
  go_wp2
  have GG := (((((Only.refl [w.heap.size + 1] w3).setCell ⟨w.heap.size + 1, 0, none⟩ (.int .i64 0) (by simp)).setCell ⟨w.heap.size + 1, 1, none⟩ (.int .i64 0) (by simp)).setCell ⟨w.heap.size + 1, 2, none⟩ (.slice none 0 0) (by simp)).setCell ⟨w.heap.size + 1, 3, none⟩ (.slice none 0 0) (by simp))
  exact bodyPost_ret (v := .tuple #[.agg #[.int .i64 0, .int .i64 0, .slice none 0 0, .slice none 0 0], .bool false]) (by simp [results, Try.results94, go_sem, r0, r1, r2, r3]) rfl ⟨rfl, V3.trans (GG.below V3.size (by simp))⟩
end Go.Proofs.Ytkbhigdciokfkaa
