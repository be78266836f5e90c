/- Trimmed by wip/trim.py to what this claim rests on. -/
import Derived.Test.YtkdjkkimngeloaaXVb2
import Derived.Test.YtkdjkkimngeloaaXR1
namespace Go.Proofs.Ytkdjkkimngeloaa
open Go.RowKit
section
variable {σ : Hp}
theorem SX {A : Option Addr} {n : Nat} {xs : List Leg} {i : Int} {K : Int → Prop} (h : RdS sJ σ A n xs) (hi : 0 ≤ i) (hn : i.toNat < xs.length) (hk : K xs[i.toNat].1) : ix A n i 2 fun b a => ldI σ .i64 b a K := by
  refine Hd (ss := sJ) h rfl hi hn fun b o hc => ?_
  exact BA (hc 0 (by decide)) hk
theorem Rp {A : Option Addr} {n : Nat} {xs : List Leg} {i : Int} {K : Int → Prop} (h : RdS sJ σ A n xs) (hi : 0 ≤ i) (hn : i.toNat < xs.length) (hk : K xs[i.toNat].2) : ix A n i 2 fun b a => ldI σ .i64 b (a + 1) K := by
  refine Hd (ss := sJ) h rfl hi hn fun b o hc => ?_
  exact BA (hc 1 (by decide)) hk
end
end Go.Proofs.Ytkdjkkimngeloaa
