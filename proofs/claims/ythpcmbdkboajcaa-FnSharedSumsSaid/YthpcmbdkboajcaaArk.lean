/- Arithmetic circuits: the laws' own helpers. -/
import Derived.Test.YthpcmbdkboajcaaArGates
namespace Go.Proofs.Ythpcmbdkboajcaa
open Go.RowKit
end Go.Proofs.Ythpcmbdkboajcaa
