/- Trimmed by wip/trim.py to what this claim rests on. -/
import Derived.Test.YtkdjkkimngeloaaYVe1
import Derived.Test.YtkdjkkimngeloaaYVa5
import Derived.Test.YtkdjkkimngeloaaYVb11
namespace Go.Proofs.Ytkdjkkimngeloaa
open Go.RowKit
section
variable {σ : Hp}
end
section
variable {σ : Hp}
end
end Go.Proofs.Ytkdjkkimngeloaa
