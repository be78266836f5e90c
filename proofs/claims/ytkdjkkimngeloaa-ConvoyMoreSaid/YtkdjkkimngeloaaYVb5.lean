/- Trimmed by wip/trim.py to what this claim rests on. -/
import Derived.Test.YtkdjkkimngeloaaYVb4
namespace Go.Proofs.Ytkdjkkimngeloaa
open Go.RowKit
section
variable {σ : Hp}
theorem Q2 {m : Mp} {ls : List Lry} {t : Int} (h : eT m ls t = 0) : MpS m ∧ ls.length ≤ 8 ∧ (∀ l ∈ ls, A0 m l) ∧ 0 ≤ t ∧ t < m.pk.length := by
  unfold eT at h
  split at h
  · rename_i h1
    split at h
    · cases h
    · rename_i h2
      split at h
      · rename_i h3
        split at h
        · rename_i h4
          exact ⟨Mp.okB_iff.1 h1, by omega, fun l hl => Ke.1 (List.all_eq_true.1 h3 l hl), h4⟩
        · cases h
      · cases h
  · cases h
end
end Go.Proofs.Ytkdjkkimngeloaa
