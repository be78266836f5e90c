/- Trimmed by wip/trim.py to what this claim rests on. -/
import Derived.Test.YtkdjkkimngeloaaXVa5
namespace Go.Proofs.Ytkdjkkimngeloaa
open Go.RowKit
section
variable {m : Mp} {l : Lry} {C : Std → Leg → Prop}
def Sx (m : Mp) (l : Lry) (s : Std) (x : Leg) : Prop := gbp m.pk s.tn = true ∧ l.rst ≤ x.2 - s.sn
instance {s : Std} {x : Leg} : Decidable (Sx m l s x) := by unfold Sx; infer_instance
section
variable {j : List Leg} {s' : Std}
end
end
end Go.Proofs.Ytkdjkkimngeloaa
