/- Trimmed by wip/trim.py to what this claim rests on. -/
import Derived.Test.YtkdjkkimngeloaaXVd3
namespace Go.Proofs.Ytkdjkkimngeloaa
open Go.RowKit
theorem Rs {m : Mp} {l : Lry} {C : Std → Leg → Prop} : ∀ {j : List Leg} {s s' : Std} {i : Int}, Jw m l C s j s' → wlk m l s i j = (s'.tn, s'.sn, 0, 0)
  | [], s, s', i, h => by
    have h : s = s' := h
    subst h
    rfl
  | x :: j, s, s', i, ⟨_, _, s1, c, d⟩ => by
    show (match go1 m l s x with | some s1 => wlk m l s1 (i + 1) j | none => (0, 0, i, 92)) = _
    rw [c]
    exact Rs d
end Go.Proofs.Ytkdjkkimngeloaa
