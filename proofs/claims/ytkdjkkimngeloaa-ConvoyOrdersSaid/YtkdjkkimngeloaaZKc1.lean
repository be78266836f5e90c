/- Trimmed by wip/trim.py to what this claim rests on. -/
import Derived.Test.YtkdjkkimngeloaaZJa1
import Derived.Test.YtkdjkkimngeloaaZVb2
namespace Go.Proofs.Ytkdjkkimngeloaa
open Go.RowKit Go.ChangeShapes Go.WideShapes Go.Deep Go.Joins
theorem Try.own : ownKnob Try.prog.godebug = none := by kernel_rfl
theorem Try.laidOut : laidOutB Try.prog = true := by kernel_rfl
theorem UO : Gn Try.prog 3 [.int .i64] := Gn.int Try.underlying3
theorem TO : Gn Try.prog 4 [.bool] := Gn.bool Try.underlying4
theorem SO : Gn Try.prog 51 sR := Gn.struct Try.underlying51 (by kernel_rfl) (by kernel_rfl) (by kernel_rfl)
theorem RR : Gn Try.prog 27 sL := Gn.struct Try.underlying27 (by kernel_rfl) (by kernel_rfl) (by kernel_rfl)
theorem UL : Gn Try.prog 60 sJ := Gn.struct Try.underlying60 (by kernel_rfl) (by kernel_rfl) (by kernel_rfl)
section
variable {H : Type} {enc : TypeId × Value → H} {W : World} {sp : Nat → Bool} {hd : Bool}
set_option maxRecDepth 100000 in
theorem Qw {t e : TypeId} {v : Value} {d : DataW H} {p : List MemPlace} {b0 : Nat} (ht : Try.prog.underlying t = some (.slice e)) (hv : Value.okWide Try.prog W .any b0 t v) (h : DataW.Trod enc Try.prog W 0 sp hd t v d p) : ∃ n, DataW.trod enc Try.prog W 0 sp hd n t [v] = some (d, p) := by
  obtain ⟨a, len, cap, rfl⟩ := okWide_slice ht hv
  exact h
set_option maxRecDepth 100000 in
theorem Ua {v : Value} {d : DataW H} {p : List MemPlace} {b0 : Nat} (hv : Value.okWide Try.prog W .any b0 25 v) (h : DataW.Trod enc Try.prog W 0 sp hd 25 v d p) : ∃ (w : MW) (m : Mp), v = w.v ∧ MIn (E6 W) w m := by
  obtain ⟨v0, v1, y0, y1, n, rfl, _, _, h0, h1⟩ := open_agg2 Try.underlying25 (by kernel_rfl) (by kernel_rfl) hv h
  obtain ⟨A, n, c, xs, rfl, _, hr⟩ := FP Try.underlying22 TO (by kernel_rfl) (by decide) h0
  obtain ⟨A', n', c', ys, rfl, _, hr'⟩ := FP Try.underlying23 SO (by kernel_rfl) (by decide) h1
  exact ⟨⟨A, n, c, A', n', c'⟩, ⟨xs, ys⟩, rfl, hr, hr'⟩
set_option maxRecDepth 100000 in
theorem N9 {v : Value} {d : DataW H} {p : List MemPlace} {b0 : Nat} (hv : Value.okWide Try.prog W .any b0 29 v) (h : DataW.Trod enc Try.prog W 0 sp hd 29 v d p) : ∃ A n c, ∃ ls : List LrT, v = .slice A n c ∧ n ≤ c ∧ RdS sL (E6 W) A n ls := by
  obtain ⟨n, h⟩ := Qw Try.underlying29 hv h
  exact FP Try.underlying29 RR (by kernel_rfl) (by decide) h
end
end Go.Proofs.Ytkdjkkimngeloaa
