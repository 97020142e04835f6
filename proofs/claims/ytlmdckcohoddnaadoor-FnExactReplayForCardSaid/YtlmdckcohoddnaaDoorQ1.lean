/- Further lemmas and walks that the claim's proof rests on, part 1. -/
import Derived.Test.YtlmdckcohoddnaaDoorK1
import Derived.Test.YtlmdckcohoddnaaDoorK2
import Derived.Test.YtlmdckcohoddnaaDoorK3
import Derived.Test.YtlmdckcohoddnaaDoorK4
import Derived.Test.YtlmdckcohoddnaaDoorK5
import Derived.Test.YtlmdckcohoddnaaDoorK6
import Derived.Test.YtlmdckcohoddnaaDoorK7
import Derived.Test.YtlmdckcohoddnaaDoorK8
import Derived.Test.YtlmdckcohoddnaaDoorK9
import Derived.Test.YtlmdckcohoddnaaDoorK10
import Derived.Test.YtlmdckcohoddnaaDoorK11
import Derived.Test.YtlmdckcohoddnaaDoorK12
import Derived.Test.YtlmdckcohoddnaaDoorK13
namespace Go.Proofs.YtlmdckcohoddnaaDoor
open Go.RowKit
theorem info_Message : (Tryd.prog.info? 44).map (fun i => (i.zero, i.size, i.bytes)) = some (some (.agg #[.int .i64 0, .int .i64 0, .slice none 0 0]), 3, 40) := by kernel_rfl
end Go.Proofs.YtlmdckcohoddnaaDoor
