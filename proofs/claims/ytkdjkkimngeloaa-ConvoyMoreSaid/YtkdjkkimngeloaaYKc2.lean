/- Trimmed by wip/trim.py to what this claim rests on. -/
import Derived.Test.YtkdjkkimngeloaaYKc1
namespace Go.Proofs.Ytkdjkkimngeloaa
open Go.RowKit Go.ChangeShapes Go.WideShapes Go.Deep Go.Joins
section
variable {H : Type} {enc : TypeId × Value → H} {W : World} {sp : Nat → Bool} {hd : Bool}
set_option maxRecDepth 100000 in
theorem NB {v : Value} {d : DataW H} {p : List MemPlace} {b0 : Nat} (hv : Value.okWide Try.prog W .any b0 53 v) (h : DataW.Trod enc Try.prog W 0 sp hd 53 v d p) :
    ∃ (mt mr mb : Int) (nr : Rdt), v = .agg #[.int .i64 mt, .int .i64 mr, .int .i64 mb, .int .i64 nr.1, .int .i64 nr.2.1, .int .i64 nr.2.2.1, .int .i64 nr.2.2.2.1, .int .i64 nr.2.2.2.2] := by
  obtain ⟨cs, rfl, hsz⟩ := okWide_struct Try.underlying53 hv
  obtain ⟨fuel, hf⟩ := h
  have hf : DataW.trod enc Try.prog W 0 sp hd fuel 53 cs.toList = some (d, p) := hf
  obtain ⟨xs, m, _, _, hcl, hxl, hg⟩ := DataW.trod_struct Try.underlying53 hf
  have h8 : cs.toList.length = 8 := by rw [hcl]; kernel_rfl
  obtain ⟨cl, hcs⟩ : ∃ cl, cs.toList = cl := ⟨_, rfl⟩
  rw [hcs] at hg h8
  match cl, h8 with
  | [c0, c1, c2, c3, c4, c5, c6, c7], _ =>
    have hx : ∀ i, i < 4 → xs[i]? = some (xs[i]?.getD (.agg [], [])) := fun i hi => by
      have : i < xs.length := by rw [hxl]; exact hi
      rw [List.getElem?_eq_getElem this]
      rfl
    have g0 := hg 0 _ rfl
    have g1 := hg 1 _ rfl
    have g2 := hg 2 _ rfl
    have g3 := hg 3 _ rfl
    rw [hx 0 (by omega)] at g0
    rw [hx 1 (by omega)] at g1
    rw [hx 2 (by omega)] at g2
    rw [hx 3 (by omega)] at g3
    have k1 : Try.prog.cellsOf 3 = 1 := by kernel_rfl
    have k5 : Try.prog.cellsOf 51 = 5 := by kernel_rfl
    have g0 : DataW.trod enc Try.prog W 0 sp hd m 3 (([c0, c1, c2, c3, c4, c5, c6, c7].drop 0).take (Try.prog.cellsOf 3)) = _ := g0
    have g1 : DataW.trod enc Try.prog W 0 sp hd m 3 (([c0, c1, c2, c3, c4, c5, c6, c7].drop 1).take (Try.prog.cellsOf 3)) = _ := g1
    have g2 : DataW.trod enc Try.prog W 0 sp hd m 3 (([c0, c1, c2, c3, c4, c5, c6, c7].drop 2).take (Try.prog.cellsOf 3)) = _ := g2
    have g3 : DataW.trod enc Try.prog W 0 sp hd m 51 (([c0, c1, c2, c3, c4, c5, c6, c7].drop 3).take (Try.prog.cellsOf 51)) = _ := g3
    rw [k1] at g0 g1 g2
    rw [k5] at g3
    obtain ⟨a0, e0, _⟩ := DataW.trod_int Try.underlying3 (show DataW.trod enc Try.prog W 0 sp hd m 3 [c0] = _ from g0)
    obtain ⟨a1, e1, _⟩ := DataW.trod_int Try.underlying3 (show DataW.trod enc Try.prog W 0 sp hd m 3 [c1] = _ from g1)
    obtain ⟨a2, e2, _⟩ := DataW.trod_int Try.underlying3 (show DataW.trod enc Try.prog W 0 sp hd m 3 [c2] = _ from g2)
    obtain ⟨x, e3⟩ := Lb _ _ _ _ _ _ _ _ _ (show DataW.trod enc Try.prog W 0 sp hd m 51 [c3, c4, c5, c6, c7] = _ from g3)
    have e3 : [c3, c4, c5, c6, c7] = [Value.int .i64 x.1, .int .i64 x.2.1, .int .i64 x.2.2.1, .int .i64 x.2.2.2.1, .int .i64 x.2.2.2.2] := e3
    cases e0
    cases e1
    cases e2
    simp only [List.cons.injEq, and_true] at e3
    obtain ⟨rfl, rfl, rfl, rfl, rfl⟩ := e3
    exact ⟨a0, a1, a2, x, congrArg Value.agg (Array.toList_inj.1 hcs)⟩
end
end Go.Proofs.Ytkdjkkimngeloaa
