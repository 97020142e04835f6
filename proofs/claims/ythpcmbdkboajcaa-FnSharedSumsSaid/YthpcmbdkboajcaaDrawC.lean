/- Draws of copies, chances, sets. -/
import Derived.Test.YthpcmbdkboajcaaCurB
import Derived.Deep.DeepCutAuto
namespace Go.Proofs.Ythpcmbdkboajcaa
open Go.RowKit

def Num1 (w : World) (e : Ending) (w' : World) : Prop := ∃ x : Int, e = .returned (.int .i64 x) ∧ Below w.heap.size w w'
def Num2 (w : World) (e : Ending) (w' : World) : Prop := ∃ x y : Int, e = .returned (.tuple #[.int .i64 x, .int .i64 y]) ∧ Below w.heap.size w w'
def Num3 (w : World) (e : Ending) (w' : World) : Prop := ∃ x y z : Int, e = .returned (.tuple #[.int .i64 x, .int .i64 y, .int .i64 z]) ∧ Below w.heap.size w w'
def Num4 (w : World) (e : Ending) (w' : World) : Prop := ∃ x y z u : Int, e = .returned (.tuple #[.int .i64 x, .int .i64 y, .int .i64 z, .int .i64 u]) ∧ Below w.heap.size w w'
def Row1 (w : World) (e : Ending) (w' : World) : Prop := ∃ (a : Option Addr) (n c : Nat) (l : List Int), e = .returned (.slice a n c) ∧ Ints w' a n c l ∧ Below w.heap.size w w'
def CopP (w : World) (g k : Nat) (e : Ending) (w' : World) : Prop := ∃ (x y : Int) (k' : Nat), e = .returned (.tuple #[.int .i64 x, .int .i64 y]) ∧ (-100 ≤ x ∧ x ≤ 100000) ∧ k' ≤ k + 8 ∧ Cur w' g k' ∧ Only [g] w w'
end Go.Proofs.Ythpcmbdkboajcaa
