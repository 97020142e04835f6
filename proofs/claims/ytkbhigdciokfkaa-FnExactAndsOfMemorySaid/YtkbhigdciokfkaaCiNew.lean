/- The reference's maker, new. -/
import Derived.Test.YtkbhigdciokfkaaMkA
namespace Go.Proofs.Ytkbhigdciokfkaa
open Go.RowKit
set_option maxHeartbeats 4000000 in
theorem ciNew_any (_i0 _i1 : Int) (b : Nat) (w : World) (hb : b ≤ w.heap.size) :
    Calls Try.prog 82 #[.int .i64 _i0, .int .i64 _i1] w fun e w' => e = .returned (.pointer (some ⟨w.heap.size, 0, none⟩)) ∧ Mk 79 w' b w.heap.size _i0 _i1 [] [w.heap.size] ∧ Below w.heap.size w w' ∧ w.heap.size + 1 ≤ w'.heap.size := by
  go_enter Try.func82, Try.ntmps82
  go_wp2
  go_ret
  exact ⟨rfl, Mk.new _ w b _i0 _i1 hb, (Below.refl _ _).alloc (Nat.le_refl _) _, by simp⟩
end Go.Proofs.Ytkbhigdciokfkaa
