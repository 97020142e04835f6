/- The gates of a maker. -/
import Derived.Test.YtkbhigdciokfkaaMkA
import Derived.Test.YtkbhigdciokfkaaMkM
namespace Go.Proofs.Ytkbhigdciokfkaa
open Go.RowKit
set_option maxHeartbeats 4000000 in
theorem inputs_any (i0 i1 : Int) (a : Option Addr) (n c : Nat) (oa : Option Addr) (on oc : Nat) (w : World) (h0 : 0 ≤ i0 ∧ i0 ≤ 100000) (h1 : 0 ≤ i1 ∧ i1 ≤ 100000) :
    Calls Try.prog 131 #[.agg #[.int .i64 i0, .int .i64 i1, .slice a n c, .slice oa on oc]] w fun e w' => e = .returned (.int .i64 (i0 + i1)) ∧ Below w.heap.size w w' := by
  go_enter Try.func131, Try.ntmps131
  go_wp2
  go_ret
  exact ⟨rfl, (Below.refl _ _).alloc (Nat.le_refl _) _⟩
set_option maxHeartbeats 4000000 in
theorem ciInputs_any (i0 i1 : Int) (a : Option Addr) (n c : Nat) (oa : Option Addr) (on oc : Nat) (w : World) (h0 : 0 ≤ i0 ∧ i0 ≤ 100000) (h1 : 0 ≤ i1 ∧ i1 ≤ 100000) :
    Calls Try.prog 150 #[.agg #[.int .i64 i0, .int .i64 i1, .slice a n c, .slice oa on oc]] w fun e w' => e = .returned (.int .i64 (i0 + i1)) ∧ Below w.heap.size w w' := by
  go_enter Try.func150, Try.ntmps150
  go_wp2
  go_ret
  exact ⟨rfl, (Below.refl _ _).alloc (Nat.le_refl _) _⟩
set_option maxHeartbeats 2000000 in
theorem wires_any (i0 i1 : Int) (ga : Option Addr) (gn gc : Nat) (oa : Option Addr) (on oc : Nat) (w : World) (h0 : 0 ≤ i0 ∧ i0 ≤ 100000) (h1 : 0 ≤ i1 ∧ i1 ≤ 100000) (hg : gn ≤ 1000000) :
    Calls Try.prog 133 #[.agg #[.int .i64 i0, .int .i64 i1, .slice ga gn gc, .slice oa on oc]] w fun e w' => e = .returned (.int .i64 (i0 + i1 + gn)) ∧ Below w.heap.size w w' := by
  go_enter Try.func133, Try.ntmps133
  go_wp2_with fail
  have V0 : Below w.heap.size w (w.alloc (.cells #[.int .i64 i0, .int .i64 i1, .slice ga gn gc, .slice oa on oc] 25)) := (Below.refl _ _).alloc (Nat.le_refl _) _
  have B0 : Blk (w.alloc (.cells #[.int .i64 i0, .int .i64 i1, .slice ga gn gc, .slice oa on oc] 25)) w.heap.size 25 #[.int .i64 i0, .int .i64 i1, .slice ga gn gc, .slice oa on oc] := Blk.new w _ _
  generalize (w.alloc (.cells #[.int .i64 i0, .int .i64 i1, .slice ga gn gc, .slice oa on oc] 25)) = w1 at *
  have x0 : w1.cell? ⟨w.heap.size, 0, none⟩ = some (.int .i64 i0) := B0.cell 0
  have x1 : w1.cell? ⟨w.heap.size, 1, none⟩ = some (.int .i64 i1) := B0.cell 1
  have x2 : w1.cell? ⟨w.heap.size, 2, none⟩ = some (.slice ga gn gc) := B0.cell 2
  have x3 : w1.cell? ⟨w.heap.size, 3, none⟩ = some (.slice oa on oc) := B0.cell 3
  have t1 : IntKind.i64.wrap (i0 + i1 + (gn : Int)) = i0 + i1 + gn := IntWalk.i64_in _ (by omega)
  go_region_held3 (fun W => W.cell? ⟨w.heap.size, 0, none⟩ = some (.int .i64 i0) ∧ W.cell? ⟨w.heap.size, 1, none⟩ = some (.int .i64 i1) ∧ W.cell? ⟨w.heap.size, 2, none⟩ = some (.slice ga gn gc) ∧ W.cell? ⟨w.heap.size, 3, none⟩ = some (.slice oa on oc))
    (first | go_keep | exact ⟨keepC u x0, keepC u x1, keepC u x2, keepC u x3⟩)
    (first | (go_at_call 131; refine (inputs_any _ _ _ _ _ _ _ _ _ (by omega) (by omega)).mono ?_; rintro e w2 ⟨rfl, u⟩))
  all_goals have u' : Below w1.heap.size w1 w2 := (Below.refl _ _).drew.trans u
  all_goals go_wp2
  all_goals go_ret
  all_goals exact ⟨rfl, V0.trans (u'.mono V0.size)⟩
set_option maxHeartbeats 2000000 in
theorem ciWires_any (i0 i1 : Int) (ga : Option Addr) (gn gc : Nat) (oa : Option Addr) (on oc : Nat) (w : World) (h0 : 0 ≤ i0 ∧ i0 ≤ 100000) (h1 : 0 ≤ i1 ∧ i1 ≤ 100000) (hg : gn ≤ 1000000) :
    Calls Try.prog 151 #[.agg #[.int .i64 i0, .int .i64 i1, .slice ga gn gc, .slice oa on oc]] w fun e w' => e = .returned (.int .i64 (i0 + i1 + gn)) ∧ Below w.heap.size w w' := by
  go_enter Try.func151, Try.ntmps151
  go_wp2_with fail
  have V0 : Below w.heap.size w (w.alloc (.cells #[.int .i64 i0, .int .i64 i1, .slice ga gn gc, .slice oa on oc] 25)) := (Below.refl _ _).alloc (Nat.le_refl _) _
  have B0 : Blk (w.alloc (.cells #[.int .i64 i0, .int .i64 i1, .slice ga gn gc, .slice oa on oc] 25)) w.heap.size 25 #[.int .i64 i0, .int .i64 i1, .slice ga gn gc, .slice oa on oc] := Blk.new w _ _
  generalize (w.alloc (.cells #[.int .i64 i0, .int .i64 i1, .slice ga gn gc, .slice oa on oc] 25)) = w1 at *
  have x0 : w1.cell? ⟨w.heap.size, 0, none⟩ = some (.int .i64 i0) := B0.cell 0
  have x1 : w1.cell? ⟨w.heap.size, 1, none⟩ = some (.int .i64 i1) := B0.cell 1
  have x2 : w1.cell? ⟨w.heap.size, 2, none⟩ = some (.slice ga gn gc) := B0.cell 2
  have x3 : w1.cell? ⟨w.heap.size, 3, none⟩ = some (.slice oa on oc) := B0.cell 3
  have t1 : IntKind.i64.wrap (i0 + i1 + (gn : Int)) = i0 + i1 + gn := IntWalk.i64_in _ (by omega)
  go_region_held3 (fun W => W.cell? ⟨w.heap.size, 0, none⟩ = some (.int .i64 i0) ∧ W.cell? ⟨w.heap.size, 1, none⟩ = some (.int .i64 i1) ∧ W.cell? ⟨w.heap.size, 2, none⟩ = some (.slice ga gn gc) ∧ W.cell? ⟨w.heap.size, 3, none⟩ = some (.slice oa on oc))
    (first | go_keep | exact ⟨keepC u x0, keepC u x1, keepC u x2, keepC u x3⟩)
    (first | (go_at_call 150; refine (ciInputs_any _ _ _ _ _ _ _ _ _ (by omega) (by omega)).mono ?_; rintro e w2 ⟨rfl, u⟩))
  all_goals have u' : Below w1.heap.size w1 w2 := (Below.refl _ _).drew.trans u
  all_goals go_wp2
  all_goals go_ret
  all_goals exact ⟨rfl, V0.trans (u'.mono V0.size)⟩
end Go.Proofs.Ytkbhigdciokfkaa
