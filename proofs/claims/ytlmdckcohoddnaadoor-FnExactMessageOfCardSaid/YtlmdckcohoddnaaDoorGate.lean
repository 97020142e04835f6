/- The triple of a gate; the law over it. -/
import Derived.Test.YtlmdckcohoddnaaDoorDigest
import Derived.Test.YtlmdckcohoddnaaDoorField
namespace Go.Proofs.YtlmdckcohoddnaaDoor
open Go.RowKit

set_option maxHeartbeats 400000 in
theorem isKey_any (k : Int) (w : World) : Calls Tryd.prog 75 #[.int .i64 k] w fun e w' => e = .returned (.bool (inB k 0 1000000000)) ∧ w = w' := by
  go_enter Tryd.func75, Tryd.ntmps75
  go_wp2_with (go_at_call 64; refine (within_any _ _ _ _).mono ?_; rintro e w' ⟨rfl, rfl⟩)
  go_ret
  exact ⟨rfl, rfl⟩
set_option maxHeartbeats 400000 in
theorem shKey_any (k : Int) (w : World) : Calls Tryd.prog 79 #[.int .i64 k] w fun e w' => e = .returned (.bool (inB k 0 1000000000)) ∧ w = w' := by
  go_enter Tryd.func79, Tryd.ntmps79
  go_wp2_with (go_at_call 87; refine (l1In_any _ _ _ _).mono ?_; rintro e w' ⟨rfl, rfl⟩)
  go_ret
  exact ⟨rfl, rfl⟩
/-- The drawn numbers of a gate's triple. -/
def gtN (p key k i : Int) : Int := numI [key, k, i, 71] p
def gtP (p key k : Int) (m : Nat) : List Int := (List.range m).map fun (i : Nat) => gtN p key k i
theorem gtP_succ (p key k : Int) (m : Nat) : gtP p key k (m + 1) = gtP p key k m ++ [gtN p key k m] := by unfold gtP; rw [List.range_succ, List.map_append]; rfl
theorem gtP_five (p key k : Int) : gtP p key k 5 = [gtN p key k 0, gtN p key k 1, gtN p key k 2, gtN p key k 3, gtN p key k 4] := rfl
def gtZ (p key k : Int) : Int := ((gtN p key k 0 + gtN p key k 3) * (gtN p key k 1 + gtN p key k 4) - gtN p key k 2) % p
def gtL (p key k : Int) : List Int := [gtN p key k 0, gtN p key k 1, gtN p key k 2, gtN p key k 3, gtN p key k 4, gtZ p key k]
theorem gtN_range (p key k i : Int) (h : 1 ≤ p) : 0 ≤ gtN p key k i ∧ gtN p key k i ≤ p - 1 := numI_range _ _ h
def gtB (p key k : Int) : Bool := isPr p && inB key 0 1000000000 && inB k 0 99
def gtO (p key k : Int) : List Int := if gtB p key k then gtL p key k else []
theorem gtO_len (p key k : Int) : (gtO p key k).length ≤ 1000000 := by unfold gtO; split <;> simp [gtL]
end Go.Proofs.YtlmdckcohoddnaaDoor
