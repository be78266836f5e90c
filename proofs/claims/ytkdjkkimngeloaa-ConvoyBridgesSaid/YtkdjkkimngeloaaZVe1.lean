/- Trimmed by wip/trim.py to what this claim rests on. -/
import Derived.Test.YtkdjkkimngeloaaZVb5
import Derived.Test.YtkdjkkimngeloaaZR1
namespace Go.Proofs.Ytkdjkkimngeloaa
open Go.RowKit
section
variable {σ : Hp}
theorem Pu {m : Mp} {l : Lry} (h : eC m [l] = 0) : MpS m ∧ Bg m l := by
  unfold eC at h
  split at h
  · rename_i h1
    split at h
    · rename_i h2
      refine ⟨Mp.okB_iff.1 h1, Ij.1 (by simpa using h2)⟩
    · cases h
  · cases h
theorem Qb {A : Option Addr} {n : Nat} {xs : List Leg} {i : Int} {K : Int → Prop} (h : RdS sJ σ A n xs) (hi : 0 ≤ i) (hn : i.toNat < xs.length) (hk : K xs[i.toNat].1) : ix A n i 2 fun b a => ldI σ .i64 b a K := by
  refine IZ (ss := sJ) h rfl hi hn fun b o hc => ?_
  exact Bj (hc 0 (by decide)) hk
theorem Qh {A : Option Addr} {n : Nat} {xs : List Leg} {i : Int} {K : Int → Prop} (h : RdS sJ σ A n xs) (hi : 0 ≤ i) (hn : i.toNat < xs.length) (hk : K xs[i.toNat].2) : ix A n i 2 fun b a => ldI σ .i64 b (a + 1) K := by
  refine IZ (ss := sJ) h rfl hi hn fun b o hc => ?_
  exact Bj (hc 1 (by decide)) hk
end
end Go.Proofs.Ytkdjkkimngeloaa
