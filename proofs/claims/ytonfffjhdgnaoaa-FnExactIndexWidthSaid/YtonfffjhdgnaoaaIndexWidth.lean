import Derived.Test.YtonfffjhdgnaoaaWidth
import Derived.Test.YtonfffjhdgnaoaaInts
namespace Go.Proofs.Ytonfffjhdgnaoaa
open Go.RowKit
set_option maxHeartbeats 400000 in
theorem FnExactIndexWidth_walk (a0 : Int) (w : World) (_w0 : -9223372036854775808 ≤ a0 ∧ a0 ≤ 9223372036854775807) :
    Calls Try.prog 3 #[.int .i64 a0] w fun e w' => e = .returned (.bool true) ∧ Below w.heap.size w w' := by
  by_cases h1 : 1 ≤ a0
  · by_cases h2 : a0 ≤ 8
    · go_enter Try.func3, Try.ntmps3
      go_wp2_with (first | (go_at_call 43; refine (indexWidth_any _ _ (by omega) (by omega)).mono ?_; rintro e w' ⟨rfl, rfl⟩) | (go_at_call 50; refine (cvWidth_any _ _ (by omega) (by omega)).mono ?_; rintro e w' ⟨rfl, rfl⟩) | go_in)
      go_ret
      exact ⟨rfl, Below.refl _ _⟩
    · go_enter Try.func3, Try.ntmps3
      go_wp2
      go_ret
      exact ⟨rfl, Below.refl _ _⟩
  · go_enter Try.func3, Try.ntmps3
    go_wp2
    go_ret
    exact ⟨rfl, Below.refl _ _⟩
end Go.Proofs.Ytonfffjhdgnaoaa
