/- RunWithFault: what it returns. -/
import Derived.Test.YthpcmbdkboajcaaWireM
namespace Go.Proofs.Ythpcmbdkboajcaa
open Go.RowKit

def rfB (P i0 i1 : Int) (gn : Nat) (G O : List Int) (key : Int) (A B : List Int) (k change : Int) : Bool := asB P i0 i1 gn G O key A B && (inB k 0 ((gn : Int) - 1) && (decide (G.getD (k.toNat * 3) 0 = 1) && elB P change))
def rfL (P i0 i1 : Int) (gn : Nat) (G O : List Int) (key : Int) (A B : List Int) (k change : Int) : List Int := if rfB P i0 i1 gn G O key A B k change then outL P (wsQ P key k change gn G A B).1 (wsQ P key k change gn G A B).2.1 O O.length else []
theorem rfB_true {P i0 i1 : Int} {gn : Nat} {G O : List Int} {key : Int} {A B : List Int} {k change : Int} (h : rfB P i0 i1 gn G O key A B k change = true) : asB P i0 i1 gn G O key A B = true := by
  unfold rfB at h; rw [Bool.and_eq_true] at h; exact h.1
theorem rfL_len (P i0 i1 : Int) (gn : Nat) (G O : List Int) (key : Int) (A B : List Int) (k change : Int) : (rfL P i0 i1 gn G O key A B k change).length ≤ 1000000 := by
  unfold rfL
  split
  · rename_i h; have := asB_gn (rfB_true h); rw [outL_len]; omega
  · simp
end Go.Proofs.Ythpcmbdkboajcaa
