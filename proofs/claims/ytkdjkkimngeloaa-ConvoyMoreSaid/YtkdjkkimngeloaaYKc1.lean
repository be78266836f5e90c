/- Trimmed by wip/trim.py to what this claim rests on. -/
import Derived.Test.YtkdjkkimngeloaaYJa1
import Derived.Test.YtkdjkkimngeloaaYVb5
namespace Go.Proofs.Ytkdjkkimngeloaa
open Go.RowKit Go.ChangeShapes Go.WideShapes Go.Deep Go.Joins
theorem Try.own : ownKnob Try.prog.godebug = none := by kernel_rfl
theorem Try.laidOut : laidOutB Try.prog = true := by kernel_rfl
theorem Ok : IG Try.prog 4 [.bool] := IG.bool Try.underlying4
theorem Lb : IG Try.prog 51 sR := IG.struct Try.underlying51 (by kernel_rfl) (by kernel_rfl) (by kernel_rfl)
theorem NT : IG Try.prog 27 sL := IG.struct Try.underlying27 (by kernel_rfl) (by kernel_rfl) (by kernel_rfl)
section
variable {H : Type} {enc : TypeId × Value → H} {W : World} {sp : Nat → Bool} {hd : Bool}
set_option maxRecDepth 100000 in
theorem O9 {v : Value} {d : DataW H} {p : List MemPlace} {b0 : Nat} (hv : Value.okWide Try.prog W .any b0 25 v) (h : DataW.Trod enc Try.prog W 0 sp hd 25 v d p) : ∃ (w : MW) (m : Mp), v = w.v ∧ MIn (HI W) w m := by
  obtain ⟨v0, v1, y0, y1, n, rfl, _, _, h0, h1⟩ := open_agg2 Try.underlying25 (by kernel_rfl) (by kernel_rfl) hv h
  obtain ⟨A, n, c, xs, rfl, _, hr⟩ := JB Try.underlying22 Ok (by kernel_rfl) (by decide) h0
  obtain ⟨A', n', c', ys, rfl, _, hr'⟩ := JB Try.underlying23 Lb (by kernel_rfl) (by decide) h1
  exact ⟨⟨A, n, c, A', n', c'⟩, ⟨xs, ys⟩, rfl, hr, hr'⟩
set_option maxRecDepth 100000 in
theorem Mo {v : Value} {d : DataW H} {p : List MemPlace} {b0 : Nat} (hv : Value.okWide Try.prog W .any b0 27 v) (h : DataW.Trod enc Try.prog W 0 sp hd 27 v d p) : ∃ l : Lry, v = l.v := by
  obtain ⟨cs, rfl, hsz⟩ := okWide_struct Try.underlying27 hv
  obtain ⟨fuel, hf⟩ := h
  have hf : DataW.trod enc Try.prog W 0 sp hd fuel 27 cs.toList = some (d, p) := hf
  obtain ⟨x, e⟩ := NT _ _ _ _ _ _ _ _ _ hf
  exact ⟨⟨x.1, x.2.1, x.2.2.1, x.2.2.2.1, x.2.2.2.2.1, x.2.2.2.2.2⟩, congrArg Value.agg (Array.toList_inj.1 (show cs.toList = [_, _, _, _, _, _] from e))⟩
end
end Go.Proofs.Ytkdjkkimngeloaa
