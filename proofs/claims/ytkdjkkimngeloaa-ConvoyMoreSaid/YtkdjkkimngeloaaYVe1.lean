/- Trimmed by wip/trim.py to what this claim rests on. -/
import Derived.Test.YtkdjkkimngeloaaYVb5
import Derived.Test.YtkdjkkimngeloaaYR1
namespace Go.Proofs.Ytkdjkkimngeloaa
open Go.RowKit
section
variable {σ : Hp}
end
end Go.Proofs.Ytkdjkkimngeloaa
