/- Trimmed by wip/trim.py to what this claim rests on. -/
import Derived.Test.YtkdjkkimngeloaaXVe1
import Derived.Test.YtkdjkkimngeloaaXVa5
import Derived.Test.YtkdjkkimngeloaaXVb9
import Derived.Test.YtkdjkkimngeloaaXVb17
namespace Go.Proofs.Ytkdjkkimngeloaa
open Go.RowKit
theorem Bst.nn {m : Mp} {l : Lry} {t : Int} {a : Trp} (h : Bst m l t a) : ¬ Non m l t := fun hn => by
  obtain ⟨s, h1, h2, _⟩ := h
  exact hn (s.tn, s.dv) _ h2 ⟨_, s, h1, rfl, rfl⟩
theorem Bst.sn {m : Mp} {l : Lry} {t : Int} {a : Trp} (h : Bst m l t a) : Sn m l t (a.1 - l.rdy, (a.2.length : Int)) := by
  obtain ⟨s, h1, h2, h3, h4⟩ := h
  refine ⟨⟨(s.tn, s.dv), h2, ⟨_, s, h1, rfl, by rw [h3]⟩⟩, fun p c' hp hrc => ?_⟩
  obtain ⟨j, s', g1, rfl, rfl⟩ := hrc
  rcases h4 j s' g1 hp with e | e
  · have e1 : a.1 = s'.sn := congrArg Prod.fst e
    have e2 : a.2 = j := congrArg Prod.snd e
    rw [e1, e2]
    exact A0
  · rcases e with e | ⟨e, e2 | ⟨e2, _⟩⟩
    · have e : a.1 < s'.sn := e
      unfold clt
      dsimp only
      omega
    · have e : a.1 = s'.sn := e
      have e2 : a.2.length < j.length := e2
      unfold clt
      dsimp only
      omega
    · have e : a.1 = s'.sn := e
      have e2 : a.2.length = j.length := e2
      unfold clt
      dsimp only
      omega
section
variable {σ : Hp}
end
end Go.Proofs.Ytkdjkkimngeloaa
