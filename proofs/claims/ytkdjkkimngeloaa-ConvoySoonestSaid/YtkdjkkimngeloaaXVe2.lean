/- Trimmed by wip/trim.py to what this claim rests on. -/
import Derived.Test.YtkdjkkimngeloaaXVe1
import Derived.Test.YtkdjkkimngeloaaXVa5
import Derived.Test.YtkdjkkimngeloaaXVb11
namespace Go.Proofs.Ytkdjkkimngeloaa
open Go.RowKit
section
variable {σ : Hp}
end
section
variable {σ : Hp}
end
end Go.Proofs.Ytkdjkkimngeloaa
