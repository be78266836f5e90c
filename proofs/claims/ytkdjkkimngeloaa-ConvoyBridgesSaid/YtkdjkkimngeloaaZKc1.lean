/- Trimmed by wip/trim.py to what this claim rests on. -/
import Derived.Test.YtkdjkkimngeloaaZJa1
import Derived.Test.YtkdjkkimngeloaaZVb5
namespace Go.Proofs.Ytkdjkkimngeloaa
open Go.RowKit Go.ChangeShapes Go.WideShapes Go.Deep Go.Joins
theorem Try.own : ownKnob Try.prog.godebug = none := by kernel_rfl
theorem Try.laidOut : laidOutB Try.prog = true := by kernel_rfl
theorem Pd : Hy Try.prog 4 [.bool] := Hy.bool Try.underlying4
theorem Oe : Hy Try.prog 51 sR := Hy.struct Try.underlying51 (by kernel_rfl) (by kernel_rfl) (by kernel_rfl)
theorem Nz : Hy Try.prog 27 sL := Hy.struct Try.underlying27 (by kernel_rfl) (by kernel_rfl) (by kernel_rfl)
theorem PX : Hy Try.prog 60 sJ := Hy.struct Try.underlying60 (by kernel_rfl) (by kernel_rfl) (by kernel_rfl)
section
variable {H : Type} {enc : TypeId × Value → H} {W : World} {sp : Nat → Bool} {hd : Bool}
set_option maxRecDepth 100000 in
theorem Lw {t e : TypeId} {v : Value} {d : DataW H} {p : List MemPlace} {b0 : Nat} (ht : Try.prog.underlying t = some (.slice e)) (hv : Value.okWide Try.prog W .any b0 t v) (h : DataW.Trod enc Try.prog W 0 sp hd t v d p) : ∃ n, DataW.trod enc Try.prog W 0 sp hd n t [v] = some (d, p) := by
  obtain ⟨a, len, cap, rfl⟩ := okWide_slice ht hv
  exact h
set_option maxRecDepth 100000 in
theorem Pf {v : Value} {d : DataW H} {p : List MemPlace} {b0 : Nat} (hv : Value.okWide Try.prog W .any b0 25 v) (h : DataW.Trod enc Try.prog W 0 sp hd 25 v d p) : ∃ (w : MW) (m : Mp), v = w.v ∧ MIn (GA W) w m := by
  obtain ⟨v0, v1, y0, y1, n, rfl, _, _, h0, h1⟩ := open_agg2 Try.underlying25 (by kernel_rfl) (by kernel_rfl) hv h
  obtain ⟨A, n, c, xs, rfl, _, hr⟩ := Hs Try.underlying22 Pd (by kernel_rfl) (by decide) h0
  obtain ⟨A', n', c', ys, rfl, _, hr'⟩ := Hs Try.underlying23 Oe (by kernel_rfl) (by decide) h1
  exact ⟨⟨A, n, c, A', n', c'⟩, ⟨xs, ys⟩, rfl, hr, hr'⟩
set_option maxRecDepth 100000 in
theorem LP {v : Value} {d : DataW H} {p : List MemPlace} {b0 : Nat} (hv : Value.okWide Try.prog W .any b0 27 v) (h : DataW.Trod enc Try.prog W 0 sp hd 27 v d p) : ∃ l : Lry, v = l.v := by
  obtain ⟨cs, rfl, hsz⟩ := okWide_struct Try.underlying27 hv
  obtain ⟨fuel, hf⟩ := h
  have hf : DataW.trod enc Try.prog W 0 sp hd fuel 27 cs.toList = some (d, p) := hf
  obtain ⟨x, e⟩ := Nz _ _ _ _ _ _ _ _ _ hf
  exact ⟨⟨x.1, x.2.1, x.2.2.1, x.2.2.2.1, x.2.2.2.2.1, x.2.2.2.2.2⟩, congrArg Value.agg (Array.toList_inj.1 (show cs.toList = [_, _, _, _, _, _] from e))⟩
set_option maxRecDepth 100000 in
theorem NR {v : Value} {d : DataW H} {p : List MemPlace} {b0 : Nat} (hv : Value.okWide Try.prog W .any b0 32 v) (h : DataW.Trod enc Try.prog W 0 sp hd 32 v d p) : ∃ A n c, ∃ j : List Leg, v = .slice A n c ∧ n ≤ c ∧ RdS sJ (GA W) A n j := by
  obtain ⟨n, h⟩ := Lw Try.underlying32 hv h
  exact Hs Try.underlying32 PX (by kernel_rfl) (by decide) h
end
end Go.Proofs.Ytkdjkkimngeloaa
