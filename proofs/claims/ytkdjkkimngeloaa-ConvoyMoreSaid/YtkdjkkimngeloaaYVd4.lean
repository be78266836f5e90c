/- Trimmed by wip/trim.py to what this claim rests on. -/
import Derived.Test.YtkdjkkimngeloaaYVd3
namespace Go.Proofs.Ytkdjkkimngeloaa
open Go.RowKit
theorem QS {m : Mp} {l : Lry} {j : List Leg} {s : Std} (hm : BH m) (hl : A0 m l) (h : Jw m l Qg (bgn l) j s) : ¬ Non m l s.tn ∧ ∀ c, Sn m l s.tn c → l.rdy + c.1 ≤ s.sn := by
  obtain ⟨j', s', h1, h2, h3, h4, h5⟩ := Pu hm hl _ j s rfl h
  refine ⟨fun hn => hn (s'.tn, s'.dv) _ h2 ⟨j', s', h1, rfl, rfl⟩, fun c hc => ?_⟩
  have := hc.2 (s'.tn, s'.dv) _ h2 ⟨j', s', h1, rfl, rfl⟩
  unfold clt at this
  dsimp only at this
  omega
end Go.Proofs.Ytkdjkkimngeloaa
