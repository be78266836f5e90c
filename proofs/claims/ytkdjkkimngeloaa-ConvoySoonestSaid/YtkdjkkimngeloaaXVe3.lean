/- Trimmed by wip/trim.py to what this claim rests on. -/
import Derived.Test.YtkdjkkimngeloaaXVe2
import Derived.Test.YtkdjkkimngeloaaXVb17
namespace Go.Proofs.Ytkdjkkimngeloaa
open Go.RowKit
theorem Bst.nn {m : Mp} {l : Lry} {t : Int} {a : Trp} (h : Bst m l t a) : ¬ Non m l t := fun hn => by
  obtain ⟨s, h1, h2, _⟩ := h
  exact hn (s.tn, s.dv) _ h2 ⟨_, s, h1, rfl, rfl⟩
theorem QL {m : Mp} {l : Lry} {t : Int} : eT m [l] t = if eC m [l] = 0 then (if 0 ≤ t ∧ t < m.pk.length then 0 else 1) else eC m [l] := by
  unfold eT eC
  by_cases h1 : m.okB = true
  · rw [if_pos h1, if_pos h1, if_neg (show ¬ 8 < [l].length by simp)]
    split
    · rw [if_pos rfl]
    · rw [if_neg (show ¬ (91 : Int) = 0 by decide)]
  · rw [if_neg h1, if_neg h1, if_neg (show ¬ (90 : Int) = 0 by decide)]
theorem Bst.sn {m : Mp} {l : Lry} {t : Int} {a : Trp} (h : Bst m l t a) : Sn m l t (a.1 - l.rdy, (a.2.length : Int)) := by
  obtain ⟨s, h1, h2, h3, h4⟩ := h
  refine ⟨⟨(s.tn, s.dv), h2, ⟨_, s, h1, rfl, by rw [h3]⟩⟩, fun p c' hp hrc => ?_⟩
  obtain ⟨j, s', g1, rfl, rfl⟩ := hrc
  rcases h4 j s' g1 hp with e | e
  · have e1 : a.1 = s'.sn := congrArg Prod.fst e
    have e2 : a.2 = j := congrArg Prod.snd e
    rw [e1, e2]
    exact AN
  · rcases e with e | ⟨e, e2 | ⟨e2, _⟩⟩
    · have e : a.1 < s'.sn := e
      unfold clt
      dsimp only
      omega
    · have e : a.1 = s'.sn := e
      have e2 : a.2.length < j.length := e2
      unfold clt
      dsimp only
      omega
    · have e : a.1 = s'.sn := e
      have e2 : a.2.length = j.length := e2
      unfold clt
      dsimp only
      omega
section
variable {σ : Hp}
end
end Go.Proofs.Ytkdjkkimngeloaa
