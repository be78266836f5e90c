/- Trimmed by wip/trim.py to what this claim rests on. -/
import Derived.Test.YtkdjkkimngeloaaXVb5
import Derived.Test.YtkdjkkimngeloaaXR1
namespace Go.Proofs.Ytkdjkkimngeloaa
open Go.RowKit
section
variable {σ : Hp}
theorem NS {m : Mp} {l : Lry} (h : eC m [l] = 0) : MpS m ∧ AQ m l := by
  unfold eC at h
  split at h
  · rename_i h1
    split at h
    · rename_i h2
      refine ⟨Mp.okB_iff.1 h1, II.1 (by simpa using h2)⟩
    · cases h
  · cases h
end
end Go.Proofs.Ytkdjkkimngeloaa
