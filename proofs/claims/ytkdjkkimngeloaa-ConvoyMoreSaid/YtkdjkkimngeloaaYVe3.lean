/- Trimmed by wip/trim.py to what this claim rests on. -/
import Derived.Test.YtkdjkkimngeloaaYVe2
import Derived.Test.YtkdjkkimngeloaaYVb17
namespace Go.Proofs.Ytkdjkkimngeloaa
open Go.RowKit
section
variable {σ : Hp}
theorem QN {A : Option Addr} {n : Nat} {xs : List Rdt} {i : Int} {K : Int → Prop} (h : RdS sR σ A n xs) (hi : 0 ≤ i) (hn : i.toNat < xs.length) (hk : K xs[i.toNat].2.2.2.1) :
    ix A n i 5 fun b a => ldI σ .i64 b (a + 3) K := by
  refine I5 (ss := sR) h rfl hi hn fun b o hc => ?_
  exact Bj (hc 3 (by decide)) hk
end
end Go.Proofs.Ytkdjkkimngeloaa
