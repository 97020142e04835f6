/- The shares of all inputs. -/
import Derived.Test.YthpcmbdkboajcaaApp2
import Derived.Test.YthpcmbdkboajcaaTraffic
namespace Go.Proofs.Ythpcmbdkboajcaa
open Go.RowKit

def asB (P i0 i1 : Int) (gn : Nat) (G O : List Int) (key : Int) (A B : List Int) : Bool :=
  arB P i0 i1 gn G O && inB key 0 1000000000 && elsB P A && elsB P B && decide ((A.length : Int) = i0) && decide ((B.length : Int) = i1)
theorem asB_true {P i0 i1 : Int} {gn : Nat} {G O : List Int} {key : Int} {A B : List Int} (h : asB P i0 i1 gn G O key A B = true) :
    arB P i0 i1 gn G O = true ∧ (0 ≤ key ∧ key ≤ 1000000000) ∧ (∀ x ∈ A, 0 ≤ x ∧ x ≤ P - 1) ∧ (∀ x ∈ B, 0 ≤ x ∧ x ≤ P - 1) ∧ (A.length : Int) = i0 ∧ (B.length : Int) = i1 ∧ isPr P = true := by
  simp only [asB, Bool.and_eq_true, decide_eq_true_eq] at h
  obtain ⟨⟨⟨⟨⟨h1, h2⟩, h3⟩, h4⟩, h5⟩, h6⟩ := h
  obtain ⟨hp, _, _, ha⟩ := elsB_true h3
  exact ⟨h1, inB_true h2, (allB_iff ..).1 ha, (allB_iff ..).1 (elsB_true h4).2.2.2, h5, h6, hp⟩
set_option maxHeartbeats 8000000 in
set_option maxRecDepth 100000 in
theorem areArithInputs_any (P i0 i1 : Int) (ga : Option Addr) (gn gc : Nat) (G : List Int) (oa : Option Addr) (on oc : Nat) (O : List Int) (key : Int) (aa : Option Addr) (an ac : Nat) (A : List Int) (ba : Option Addr) (bn bc : Nat) (B : List Int) (w : World) (hG : Flat 3 w ga gn gc G) (hO : Ints w oa on oc O) (hA : Ints w aa an ac A) (hB : Ints w ba bn bc B) :
    Calls Try.prog 78 #[.agg #[.int .i64 P, .int .i64 i0, .int .i64 i1, .slice ga gn gc, .slice oa on oc], .int .i64 key, .slice aa an ac, .slice ba bn bc] w fun e w' => e = .returned (.bool (asB P i0 i1 gn G O key A B)) ∧ Below w.heap.size w w' := by
  have V0 : Below w.heap.size w (w.alloc (.cells #[.int .i64 P, .int .i64 i0, .int .i64 i1, .slice ga gn gc, .slice oa on oc] 41)) := (Below.refl _ _).alloc (Nat.le_refl _) _
  have B0 : Blk (w.alloc (.cells #[.int .i64 P, .int .i64 i0, .int .i64 i1, .slice ga gn gc, .slice oa on oc] 41)) w.heap.size 41 #[.int .i64 P, .int .i64 i0, .int .i64 i1, .slice ga gn gc, .slice oa on oc] := Blk.new w _ _
  have lA := hA.le
  have lB := hB.le
  have HAL := Lib.hid hA.len
  have HBL := Lib.hid hB.len
  cases h1 : arB P i0 i1 gn G O
  · skip
    have HR : Hid (asB P i0 i1 gn G O key A B = false) := Lib.hid (by unfold asB; rw [h1]; simp)
    go_enter Try.func78, Try.ntmps78
    go_wp2_with fail
    generalize (w.alloc (.cells #[.int .i64 P, .int .i64 i0, .int .i64 i1, .slice ga gn gc, .slice oa on oc] 41)) = w0 at *
    refine (IsArith_any _ _ _ _ _ _ G _ _ _ O _ (hG.below V0) (hO.below V0)).mono ?_; rintro e w1 ⟨rfl, u⟩
    rw [h1]
    have V1 := V0.trans (u.mono V0.size)
    have B1 := B0.below u
    clear u V0 B0
    go_wp2
    go_ret
    exact ⟨ret_bool (by rw [HR.out]), V1⟩
  cases h2 : inB key 0 1000000000
  · skip
    have HR : Hid (asB P i0 i1 gn G O key A B = false) := Lib.hid (by unfold asB; rw [h2]; simp)
    go_enter Try.func78, Try.ntmps78
    go_wp2_with fail
    generalize (w.alloc (.cells #[.int .i64 P, .int .i64 i0, .int .i64 i1, .slice ga gn gc, .slice oa on oc] 41)) = w0 at *
    refine (IsArith_any _ _ _ _ _ _ G _ _ _ O _ (hG.below V0) (hO.below V0)).mono ?_; rintro e w1 ⟨rfl, u⟩
    rw [h1]
    have V1 := V0.trans (u.mono V0.size)
    have B1 := B0.below u
    clear u V0 B0
    go_wp2_with fail
    refine (isKey_any _ _).mono ?_; rintro e w' ⟨rfl, rfl⟩
    rw [h2]
    go_wp2
    go_ret
    exact ⟨ret_bool (by rw [HR.out]), V1⟩
  cases h3 : elsB P A
  · skip
    have HR : Hid (asB P i0 i1 gn G O key A B = false) := Lib.hid (by unfold asB; rw [h3]; simp)
    go_enter Try.func78, Try.ntmps78
    go_wp2_with fail
    generalize (w.alloc (.cells #[.int .i64 P, .int .i64 i0, .int .i64 i1, .slice ga gn gc, .slice oa on oc] 41)) = w0 at *
    refine (IsArith_any _ _ _ _ _ _ G _ _ _ O _ (hG.below V0) (hO.below V0)).mono ?_; rintro e w1 ⟨rfl, u⟩
    rw [h1]
    have V1 := V0.trans (u.mono V0.size)
    have B1 := B0.below u
    clear u V0 B0
    go_wp2_with fail
    refine (isKey_any _ _).mono ?_; rintro e w' ⟨rfl, rfl⟩
    rw [h2]
    have x0 : w1.cell? ⟨w.heap.size, 0, none⟩ = some (.int .i64 P) := B1.cell 0
    have x1 : w1.cell? ⟨w.heap.size, 1, none⟩ = some (.int .i64 i0) := B1.cell 1
    have x2 : w1.cell? ⟨w.heap.size, 2, none⟩ = some (.int .i64 i1) := B1.cell 2
    go_wp2_with fail
    refine (areElements_any _ _ _ _ A _ (hA.below V1)).mono ?_; rintro e w2 ⟨rfl, u⟩
    rw [h3]
    have V2 := V1.trans (u.mono V1.size)
    have B2 := B1.below u
    clear u V1 B1 x0 x1 x2
    go_wp2
    go_ret
    exact ⟨ret_bool (by rw [HR.out]), V2⟩
  cases h4 : elsB P B
  · skip
    have HR : Hid (asB P i0 i1 gn G O key A B = false) := Lib.hid (by unfold asB; rw [h4]; simp)
    go_enter Try.func78, Try.ntmps78
    go_wp2_with fail
    generalize (w.alloc (.cells #[.int .i64 P, .int .i64 i0, .int .i64 i1, .slice ga gn gc, .slice oa on oc] 41)) = w0 at *
    refine (IsArith_any _ _ _ _ _ _ G _ _ _ O _ (hG.below V0) (hO.below V0)).mono ?_; rintro e w1 ⟨rfl, u⟩
    rw [h1]
    have V1 := V0.trans (u.mono V0.size)
    have B1 := B0.below u
    clear u V0 B0
    go_wp2_with fail
    refine (isKey_any _ _).mono ?_; rintro e w' ⟨rfl, rfl⟩
    rw [h2]
    have x0 : w1.cell? ⟨w.heap.size, 0, none⟩ = some (.int .i64 P) := B1.cell 0
    have x1 : w1.cell? ⟨w.heap.size, 1, none⟩ = some (.int .i64 i0) := B1.cell 1
    have x2 : w1.cell? ⟨w.heap.size, 2, none⟩ = some (.int .i64 i1) := B1.cell 2
    go_wp2_with fail
    refine (areElements_any _ _ _ _ A _ (hA.below V1)).mono ?_; rintro e w2 ⟨rfl, u⟩
    rw [h3]
    have V2 := V1.trans (u.mono V1.size)
    have B2 := B1.below u
    clear u V1 B1 x0 x1 x2
    have x0 : w2.cell? ⟨w.heap.size, 0, none⟩ = some (.int .i64 P) := B2.cell 0
    have x1 : w2.cell? ⟨w.heap.size, 1, none⟩ = some (.int .i64 i0) := B2.cell 1
    have x2 : w2.cell? ⟨w.heap.size, 2, none⟩ = some (.int .i64 i1) := B2.cell 2
    go_wp2_with fail
    refine (areElements_any _ _ _ _ B _ (hB.below V2)).mono ?_; rintro e w3 ⟨rfl, u⟩
    rw [h4]
    have V3 := V2.trans (u.mono V2.size)
    have B3 := B2.below u
    clear u V2 B2 x0 x1 x2
    go_wp2
    go_ret
    exact ⟨ret_bool (by rw [HR.out]), V3⟩
  by_cases h5 : (an : Int) = i0
  case neg =>
    have HR : Hid (asB P i0 i1 gn G O key A B = false) := Lib.hid (by unfold asB; rw [show decide (((A).length : Int) = i0) = false from decide_eq_false (by rw [← HAL.out]; exact h5)]; simp)
    have f5 : (((an : Int) == i0) : Bool) = false := by simpa using h5
    clear h5
    go_enter Try.func78, Try.ntmps78
    go_wp2_with fail
    generalize (w.alloc (.cells #[.int .i64 P, .int .i64 i0, .int .i64 i1, .slice ga gn gc, .slice oa on oc] 41)) = w0 at *
    refine (IsArith_any _ _ _ _ _ _ G _ _ _ O _ (hG.below V0) (hO.below V0)).mono ?_; rintro e w1 ⟨rfl, u⟩
    rw [h1]
    have V1 := V0.trans (u.mono V0.size)
    have B1 := B0.below u
    clear u V0 B0
    go_wp2_with fail
    refine (isKey_any _ _).mono ?_; rintro e w' ⟨rfl, rfl⟩
    rw [h2]
    have x0 : w1.cell? ⟨w.heap.size, 0, none⟩ = some (.int .i64 P) := B1.cell 0
    have x1 : w1.cell? ⟨w.heap.size, 1, none⟩ = some (.int .i64 i0) := B1.cell 1
    have x2 : w1.cell? ⟨w.heap.size, 2, none⟩ = some (.int .i64 i1) := B1.cell 2
    go_wp2_with fail
    refine (areElements_any _ _ _ _ A _ (hA.below V1)).mono ?_; rintro e w2 ⟨rfl, u⟩
    rw [h3]
    have V2 := V1.trans (u.mono V1.size)
    have B2 := B1.below u
    clear u V1 B1 x0 x1 x2
    have x0 : w2.cell? ⟨w.heap.size, 0, none⟩ = some (.int .i64 P) := B2.cell 0
    have x1 : w2.cell? ⟨w.heap.size, 1, none⟩ = some (.int .i64 i0) := B2.cell 1
    have x2 : w2.cell? ⟨w.heap.size, 2, none⟩ = some (.int .i64 i1) := B2.cell 2
    go_wp2_with fail
    refine (areElements_any _ _ _ _ B _ (hB.below V2)).mono ?_; rintro e w3 ⟨rfl, u⟩
    rw [h4]
    have V3 := V2.trans (u.mono V2.size)
    have B3 := B2.below u
    clear u V2 B2 x0 x1 x2
    have x0 : w3.cell? ⟨w.heap.size, 0, none⟩ = some (.int .i64 P) := B3.cell 0
    have x1 : w3.cell? ⟨w.heap.size, 1, none⟩ = some (.int .i64 i0) := B3.cell 1
    have x2 : w3.cell? ⟨w.heap.size, 2, none⟩ = some (.int .i64 i1) := B3.cell 2
    go_wp2
    go_ret
    exact ⟨ret_bool (by rw [HR.out]), V3⟩
  have f5 : (((an : Int) == i0) : Bool) = true := by simpa using h5
  by_cases h6 : (bn : Int) = i1
  case neg =>
    have HR : Hid (asB P i0 i1 gn G O key A B = false) := Lib.hid (by unfold asB; rw [show decide (((B).length : Int) = i1) = false from decide_eq_false (by rw [← HBL.out]; exact h6)]; simp)
    have f6 : (((bn : Int) == i1) : Bool) = false := by simpa using h6
    clear h6
    go_enter Try.func78, Try.ntmps78
    go_wp2_with fail
    generalize (w.alloc (.cells #[.int .i64 P, .int .i64 i0, .int .i64 i1, .slice ga gn gc, .slice oa on oc] 41)) = w0 at *
    refine (IsArith_any _ _ _ _ _ _ G _ _ _ O _ (hG.below V0) (hO.below V0)).mono ?_; rintro e w1 ⟨rfl, u⟩
    rw [h1]
    have V1 := V0.trans (u.mono V0.size)
    have B1 := B0.below u
    clear u V0 B0
    go_wp2_with fail
    refine (isKey_any _ _).mono ?_; rintro e w' ⟨rfl, rfl⟩
    rw [h2]
    have x0 : w1.cell? ⟨w.heap.size, 0, none⟩ = some (.int .i64 P) := B1.cell 0
    have x1 : w1.cell? ⟨w.heap.size, 1, none⟩ = some (.int .i64 i0) := B1.cell 1
    have x2 : w1.cell? ⟨w.heap.size, 2, none⟩ = some (.int .i64 i1) := B1.cell 2
    go_wp2_with fail
    refine (areElements_any _ _ _ _ A _ (hA.below V1)).mono ?_; rintro e w2 ⟨rfl, u⟩
    rw [h3]
    have V2 := V1.trans (u.mono V1.size)
    have B2 := B1.below u
    clear u V1 B1 x0 x1 x2
    have x0 : w2.cell? ⟨w.heap.size, 0, none⟩ = some (.int .i64 P) := B2.cell 0
    have x1 : w2.cell? ⟨w.heap.size, 1, none⟩ = some (.int .i64 i0) := B2.cell 1
    have x2 : w2.cell? ⟨w.heap.size, 2, none⟩ = some (.int .i64 i1) := B2.cell 2
    go_wp2_with fail
    refine (areElements_any _ _ _ _ B _ (hB.below V2)).mono ?_; rintro e w3 ⟨rfl, u⟩
    rw [h4]
    have V3 := V2.trans (u.mono V2.size)
    have B3 := B2.below u
    clear u V2 B2 x0 x1 x2
    have x0 : w3.cell? ⟨w.heap.size, 0, none⟩ = some (.int .i64 P) := B3.cell 0
    have x1 : w3.cell? ⟨w.heap.size, 1, none⟩ = some (.int .i64 i0) := B3.cell 1
    have x2 : w3.cell? ⟨w.heap.size, 2, none⟩ = some (.int .i64 i1) := B3.cell 2
    go_wp2
    go_ret
    exact ⟨ret_bool (by rw [HR.out]), V3⟩
  have f6 : (((bn : Int) == i1) : Bool) = true := by simpa using h6
  have HR : Hid (asB P i0 i1 gn G O key A B = true) := Lib.hid (by unfold asB; rw [h1, h2, h3, h4, decide_eq_true (by rw [← HAL.out]; exact h5), decide_eq_true (by rw [← HBL.out]; exact h6)]; rfl)
  clear h5 h6
  go_enter Try.func78, Try.ntmps78
  go_wp2_with fail
  generalize (w.alloc (.cells #[.int .i64 P, .int .i64 i0, .int .i64 i1, .slice ga gn gc, .slice oa on oc] 41)) = w0 at *
  refine (IsArith_any _ _ _ _ _ _ G _ _ _ O _ (hG.below V0) (hO.below V0)).mono ?_; rintro e w1 ⟨rfl, u⟩
  rw [h1]
  have V1 := V0.trans (u.mono V0.size)
  have B1 := B0.below u
  clear u V0 B0
  go_wp2_with fail
  refine (isKey_any _ _).mono ?_; rintro e w' ⟨rfl, rfl⟩
  rw [h2]
  have x0 : w1.cell? ⟨w.heap.size, 0, none⟩ = some (.int .i64 P) := B1.cell 0
  have x1 : w1.cell? ⟨w.heap.size, 1, none⟩ = some (.int .i64 i0) := B1.cell 1
  have x2 : w1.cell? ⟨w.heap.size, 2, none⟩ = some (.int .i64 i1) := B1.cell 2
  go_wp2_with fail
  refine (areElements_any _ _ _ _ A _ (hA.below V1)).mono ?_; rintro e w2 ⟨rfl, u⟩
  rw [h3]
  have V2 := V1.trans (u.mono V1.size)
  have B2 := B1.below u
  clear u V1 B1 x0 x1 x2
  have x0 : w2.cell? ⟨w.heap.size, 0, none⟩ = some (.int .i64 P) := B2.cell 0
  have x1 : w2.cell? ⟨w.heap.size, 1, none⟩ = some (.int .i64 i0) := B2.cell 1
  have x2 : w2.cell? ⟨w.heap.size, 2, none⟩ = some (.int .i64 i1) := B2.cell 2
  go_wp2_with fail
  refine (areElements_any _ _ _ _ B _ (hB.below V2)).mono ?_; rintro e w3 ⟨rfl, u⟩
  rw [h4]
  have V3 := V2.trans (u.mono V2.size)
  have B3 := B2.below u
  clear u V2 B2 x0 x1 x2
  have x0 : w3.cell? ⟨w.heap.size, 0, none⟩ = some (.int .i64 P) := B3.cell 0
  have x1 : w3.cell? ⟨w.heap.size, 1, none⟩ = some (.int .i64 i0) := B3.cell 1
  have x2 : w3.cell? ⟨w.heap.size, 2, none⟩ = some (.int .i64 i1) := B3.cell 2
  go_wp2
  go_ret
  exact ⟨ret_bool (by rw [HR.out]), V3⟩
set_option maxHeartbeats 8000000 in
set_option maxRecDepth 100000 in
theorem smAsked_any (P i0 i1 : Int) (ga : Option Addr) (gn gc : Nat) (G : List Int) (oa : Option Addr) (on oc : Nat) (O : List Int) (key : Int) (aa : Option Addr) (an ac : Nat) (A : List Int) (ba : Option Addr) (bn bc : Nat) (B : List Int) (w : World) (hG : Flat 3 w ga gn gc G) (hO : Ints w oa on oc O) (hA : Ints w aa an ac A) (hB : Ints w ba bn bc B) :
    Calls Try.prog 71 #[.agg #[.int .i64 P, .int .i64 i0, .int .i64 i1, .slice ga gn gc, .slice oa on oc], .int .i64 key, .slice aa an ac, .slice ba bn bc] w fun e w' => e = .returned (.bool (asB P i0 i1 gn G O key A B)) ∧ Below w.heap.size w w' := by
  have V0 : Below w.heap.size w (w.alloc (.cells #[.int .i64 P, .int .i64 i0, .int .i64 i1, .slice ga gn gc, .slice oa on oc] 41)) := (Below.refl _ _).alloc (Nat.le_refl _) _
  have B0 : Blk (w.alloc (.cells #[.int .i64 P, .int .i64 i0, .int .i64 i1, .slice ga gn gc, .slice oa on oc] 41)) w.heap.size 41 #[.int .i64 P, .int .i64 i0, .int .i64 i1, .slice ga gn gc, .slice oa on oc] := Blk.new w _ _
  have lA := hA.le
  have lB := hB.le
  have HAL := Lib.hid hA.len
  have HBL := Lib.hid hB.len
  cases h1 : arB P i0 i1 gn G O
  · skip
    have HR : Hid (asB P i0 i1 gn G O key A B = false) := Lib.hid (by unfold asB; rw [h1]; simp)
    go_enter Try.func71, Try.ntmps71
    go_wp2_with fail
    generalize (w.alloc (.cells #[.int .i64 P, .int .i64 i0, .int .i64 i1, .slice ga gn gc, .slice oa on oc] 41)) = w0 at *
    refine (arGood_any _ _ _ _ _ _ G _ _ _ O _ (hG.below V0) (hO.below V0)).mono ?_; rintro e w1 ⟨rfl, u⟩
    rw [h1]
    have V1 := V0.trans (u.mono V0.size)
    have B1 := B0.below u
    clear u V0 B0
    go_wp2
    go_ret
    exact ⟨ret_bool (by rw [HR.out]), V1⟩
  cases h2 : inB key 0 1000000000
  · skip
    have HR : Hid (asB P i0 i1 gn G O key A B = false) := Lib.hid (by unfold asB; rw [h2]; simp)
    go_enter Try.func71, Try.ntmps71
    go_wp2_with fail
    generalize (w.alloc (.cells #[.int .i64 P, .int .i64 i0, .int .i64 i1, .slice ga gn gc, .slice oa on oc] 41)) = w0 at *
    refine (arGood_any _ _ _ _ _ _ G _ _ _ O _ (hG.below V0) (hO.below V0)).mono ?_; rintro e w1 ⟨rfl, u⟩
    rw [h1]
    have V1 := V0.trans (u.mono V0.size)
    have B1 := B0.below u
    clear u V0 B0
    go_wp2_with fail
    refine (shKey_any _ _).mono ?_; rintro e w' ⟨rfl, rfl⟩
    rw [h2]
    go_wp2
    go_ret
    exact ⟨ret_bool (by rw [HR.out]), V1⟩
  by_cases h5 : (an : Int) = i0
  case neg =>
    have HR : Hid (asB P i0 i1 gn G O key A B = false) := Lib.hid (by unfold asB; rw [show decide (((A).length : Int) = i0) = false from decide_eq_false (by rw [← HAL.out]; exact h5)]; simp)
    have f5 : (((an : Int) == i0) : Bool) = false := by simpa using h5
    clear h5
    go_enter Try.func71, Try.ntmps71
    go_wp2_with fail
    generalize (w.alloc (.cells #[.int .i64 P, .int .i64 i0, .int .i64 i1, .slice ga gn gc, .slice oa on oc] 41)) = w0 at *
    refine (arGood_any _ _ _ _ _ _ G _ _ _ O _ (hG.below V0) (hO.below V0)).mono ?_; rintro e w1 ⟨rfl, u⟩
    rw [h1]
    have V1 := V0.trans (u.mono V0.size)
    have B1 := B0.below u
    clear u V0 B0
    go_wp2_with fail
    refine (shKey_any _ _).mono ?_; rintro e w' ⟨rfl, rfl⟩
    rw [h2]
    have x0 : w1.cell? ⟨w.heap.size, 0, none⟩ = some (.int .i64 P) := B1.cell 0
    have x1 : w1.cell? ⟨w.heap.size, 1, none⟩ = some (.int .i64 i0) := B1.cell 1
    have x2 : w1.cell? ⟨w.heap.size, 2, none⟩ = some (.int .i64 i1) := B1.cell 2
    go_wp2
    go_ret
    exact ⟨ret_bool (by rw [HR.out]), V1⟩
  have f5 : (((an : Int) == i0) : Bool) = true := by simpa using h5
  by_cases h6 : (bn : Int) = i1
  case neg =>
    have HR : Hid (asB P i0 i1 gn G O key A B = false) := Lib.hid (by unfold asB; rw [show decide (((B).length : Int) = i1) = false from decide_eq_false (by rw [← HBL.out]; exact h6)]; simp)
    have f6 : (((bn : Int) == i1) : Bool) = false := by simpa using h6
    clear h6
    go_enter Try.func71, Try.ntmps71
    go_wp2_with fail
    generalize (w.alloc (.cells #[.int .i64 P, .int .i64 i0, .int .i64 i1, .slice ga gn gc, .slice oa on oc] 41)) = w0 at *
    refine (arGood_any _ _ _ _ _ _ G _ _ _ O _ (hG.below V0) (hO.below V0)).mono ?_; rintro e w1 ⟨rfl, u⟩
    rw [h1]
    have V1 := V0.trans (u.mono V0.size)
    have B1 := B0.below u
    clear u V0 B0
    go_wp2_with fail
    refine (shKey_any _ _).mono ?_; rintro e w' ⟨rfl, rfl⟩
    rw [h2]
    have x0 : w1.cell? ⟨w.heap.size, 0, none⟩ = some (.int .i64 P) := B1.cell 0
    have x1 : w1.cell? ⟨w.heap.size, 1, none⟩ = some (.int .i64 i0) := B1.cell 1
    have x2 : w1.cell? ⟨w.heap.size, 2, none⟩ = some (.int .i64 i1) := B1.cell 2
    go_wp2
    go_ret
    exact ⟨ret_bool (by rw [HR.out]), V1⟩
  have f6 : (((bn : Int) == i1) : Bool) = true := by simpa using h6
  have hpr : isPr P = true := by simp only [arB, Bool.and_eq_true] at h1; exact h1.1.1.1.1.1.1
  obtain ⟨p1, p2⟩ := isPr_range hpr
  have HEA : Hid (elsB P A = allB A 0 (P - 1)) := Lib.hid (by unfold elsB; rw [hpr, Bool.true_and])
  have HEB : Hid (elsB P B = allB B 0 (P - 1)) := Lib.hid (by unfold elsB; rw [hpr, Bool.true_and])
  cases h3 : allB A 0 (P - 1)
  · skip
    have HR : Hid (asB P i0 i1 gn G O key A B = false) := Lib.hid (by unfold asB; rw [HEA.out, h3]; simp)
    clear h5 h6
    go_enter Try.func71, Try.ntmps71
    go_wp2_with fail
    generalize (w.alloc (.cells #[.int .i64 P, .int .i64 i0, .int .i64 i1, .slice ga gn gc, .slice oa on oc] 41)) = w0 at *
    refine (arGood_any _ _ _ _ _ _ G _ _ _ O _ (hG.below V0) (hO.below V0)).mono ?_; rintro e w1 ⟨rfl, u⟩
    rw [h1]
    have V1 := V0.trans (u.mono V0.size)
    have B1 := B0.below u
    clear u V0 B0
    go_wp2_with fail
    refine (shKey_any _ _).mono ?_; rintro e w' ⟨rfl, rfl⟩
    rw [h2]
    have x0 : w1.cell? ⟨w.heap.size, 0, none⟩ = some (.int .i64 P) := B1.cell 0
    have x1 : w1.cell? ⟨w.heap.size, 1, none⟩ = some (.int .i64 i0) := B1.cell 1
    have x2 : w1.cell? ⟨w.heap.size, 2, none⟩ = some (.int .i64 i1) := B1.cell 2
    go_wp2_with fail
    refine (l1All_any _ _ _ A _ _ _ (hA.below V1)).mono ?_; rintro e w2 ⟨rfl, q⟩
    have u := below_of_quiet q
    rw [h3]
    have V2 := V1.trans (u.mono V1.size)
    have B2 := B1.below u
    clear u q V1 B1 x0 x1 x2
    go_wp2
    go_ret
    exact ⟨ret_bool (by rw [HR.out]), V2⟩
  cases h4 : allB B 0 (P - 1)
  · skip
    have HR : Hid (asB P i0 i1 gn G O key A B = false) := Lib.hid (by unfold asB; rw [HEB.out, h4]; simp)
    clear h5 h6
    go_enter Try.func71, Try.ntmps71
    go_wp2_with fail
    generalize (w.alloc (.cells #[.int .i64 P, .int .i64 i0, .int .i64 i1, .slice ga gn gc, .slice oa on oc] 41)) = w0 at *
    refine (arGood_any _ _ _ _ _ _ G _ _ _ O _ (hG.below V0) (hO.below V0)).mono ?_; rintro e w1 ⟨rfl, u⟩
    rw [h1]
    have V1 := V0.trans (u.mono V0.size)
    have B1 := B0.below u
    clear u V0 B0
    go_wp2_with fail
    refine (shKey_any _ _).mono ?_; rintro e w' ⟨rfl, rfl⟩
    rw [h2]
    have x0 : w1.cell? ⟨w.heap.size, 0, none⟩ = some (.int .i64 P) := B1.cell 0
    have x1 : w1.cell? ⟨w.heap.size, 1, none⟩ = some (.int .i64 i0) := B1.cell 1
    have x2 : w1.cell? ⟨w.heap.size, 2, none⟩ = some (.int .i64 i1) := B1.cell 2
    go_wp2_with fail
    refine (l1All_any _ _ _ A _ _ _ (hA.below V1)).mono ?_; rintro e w2 ⟨rfl, q⟩
    have u := below_of_quiet q
    rw [h3]
    have V2 := V1.trans (u.mono V1.size)
    have B2 := B1.below u
    clear u q V1 B1 x0 x1 x2
    have x0 : w2.cell? ⟨w.heap.size, 0, none⟩ = some (.int .i64 P) := B2.cell 0
    have x1 : w2.cell? ⟨w.heap.size, 1, none⟩ = some (.int .i64 i0) := B2.cell 1
    have x2 : w2.cell? ⟨w.heap.size, 2, none⟩ = some (.int .i64 i1) := B2.cell 2
    go_wp2_with fail
    refine (l1All_any _ _ _ B _ _ _ (hB.below V2)).mono ?_; rintro e w3 ⟨rfl, q⟩
    have u := below_of_quiet q
    rw [h4]
    have V3 := V2.trans (u.mono V2.size)
    have B3 := B2.below u
    clear u q V2 B2 x0 x1 x2
    go_wp2
    go_ret
    exact ⟨ret_bool (by rw [HR.out]), V3⟩
  have HR : Hid (asB P i0 i1 gn G O key A B = true) := Lib.hid (by unfold asB; rw [h1, h2, HEA.out, HEB.out, h3, h4, decide_eq_true (by rw [← HAL.out]; exact h5), decide_eq_true (by rw [← HBL.out]; exact h6)]; rfl)
  clear h5 h6
  go_enter Try.func71, Try.ntmps71
  go_wp2_with fail
  generalize (w.alloc (.cells #[.int .i64 P, .int .i64 i0, .int .i64 i1, .slice ga gn gc, .slice oa on oc] 41)) = w0 at *
  refine (arGood_any _ _ _ _ _ _ G _ _ _ O _ (hG.below V0) (hO.below V0)).mono ?_; rintro e w1 ⟨rfl, u⟩
  rw [h1]
  have V1 := V0.trans (u.mono V0.size)
  have B1 := B0.below u
  clear u V0 B0
  go_wp2_with fail
  refine (shKey_any _ _).mono ?_; rintro e w' ⟨rfl, rfl⟩
  rw [h2]
  have x0 : w1.cell? ⟨w.heap.size, 0, none⟩ = some (.int .i64 P) := B1.cell 0
  have x1 : w1.cell? ⟨w.heap.size, 1, none⟩ = some (.int .i64 i0) := B1.cell 1
  have x2 : w1.cell? ⟨w.heap.size, 2, none⟩ = some (.int .i64 i1) := B1.cell 2
  go_wp2_with fail
  refine (l1All_any _ _ _ A _ _ _ (hA.below V1)).mono ?_; rintro e w2 ⟨rfl, q⟩
  have u := below_of_quiet q
  rw [h3]
  have V2 := V1.trans (u.mono V1.size)
  have B2 := B1.below u
  clear u q V1 B1 x0 x1 x2
  have x0 : w2.cell? ⟨w.heap.size, 0, none⟩ = some (.int .i64 P) := B2.cell 0
  have x1 : w2.cell? ⟨w.heap.size, 1, none⟩ = some (.int .i64 i0) := B2.cell 1
  have x2 : w2.cell? ⟨w.heap.size, 2, none⟩ = some (.int .i64 i1) := B2.cell 2
  go_wp2_with fail
  refine (l1All_any _ _ _ B _ _ _ (hB.below V2)).mono ?_; rintro e w3 ⟨rfl, q⟩
  have u := below_of_quiet q
  rw [h4]
  have V3 := V2.trans (u.mono V2.size)
  have B3 := B2.below u
  clear u q V2 B2 x0 x1 x2
  go_wp2
  go_ret
  exact ⟨ret_bool (by rw [HR.out]), V3⟩
end Go.Proofs.Ythpcmbdkboajcaa
