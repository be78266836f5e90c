/- Trimmed by wip/trim.py to what this claim rests on. -/
import Derived.Test.YtkdjkkimngeloaaXJa1
import Derived.Test.YtkdjkkimngeloaaXVb2
namespace Go.Proofs.Ytkdjkkimngeloaa
open Go.RowKit Go.ChangeShapes Go.WideShapes Go.Deep Go.Joins
theorem Try.own : ownKnob Try.prog.godebug = none := by kernel_rfl
theorem Try.laidOut : laidOutB Try.prog = true := by kernel_rfl
theorem Qh : J1 Try.prog 4 [.bool] := J1.bool Try.underlying4
theorem Q7 : J1 Try.prog 51 sR := J1.struct Try.underlying51 (by kernel_rfl) (by kernel_rfl) (by kernel_rfl)
theorem PD : J1 Try.prog 27 sL := J1.struct Try.underlying27 (by kernel_rfl) (by kernel_rfl) (by kernel_rfl)
section
variable {H : Type} {enc : TypeId × Value → H} {W : World} {sp : Nat → Bool} {hd : Bool}
set_option maxRecDepth 100000 in
theorem N2 {t e : TypeId} {v : Value} {d : DataW H} {p : List MemPlace} {b0 : Nat} (ht : Try.prog.underlying t = some (.slice e)) (hv : Value.okWide Try.prog W .any b0 t v) (h : DataW.Trod enc Try.prog W 0 sp hd t v d p) : ∃ n, DataW.trod enc Try.prog W 0 sp hd n t [v] = some (d, p) := by
  obtain ⟨a, len, cap, rfl⟩ := okWide_slice ht hv
  exact h
set_option maxRecDepth 100000 in
theorem P0 {v : Value} {d : DataW H} {p : List MemPlace} {b0 : Nat} (hv : Value.okWide Try.prog W .any b0 25 v) (h : DataW.Trod enc Try.prog W 0 sp hd 25 v d p) : ∃ (w : MW) (m : Mp), v = w.v ∧ MIn (H9 W) w m := by
  obtain ⟨v0, v1, y0, y1, n, rfl, _, _, h0, h1⟩ := open_agg2 Try.underlying25 (by kernel_rfl) (by kernel_rfl) hv h
  obtain ⟨A, n, c, xs, rfl, _, hr⟩ := IM Try.underlying22 Qh (by kernel_rfl) (by decide) h0
  obtain ⟨A', n', c', ys, rfl, _, hr'⟩ := IM Try.underlying23 Q7 (by kernel_rfl) (by decide) h1
  exact ⟨⟨A, n, c, A', n', c'⟩, ⟨xs, ys⟩, rfl, hr, hr'⟩
set_option maxRecDepth 100000 in
theorem LM {v : Value} {d : DataW H} {p : List MemPlace} {b0 : Nat} (hv : Value.okWide Try.prog W .any b0 29 v) (h : DataW.Trod enc Try.prog W 0 sp hd 29 v d p) : ∃ A n c, ∃ ls : List LrT, v = .slice A n c ∧ n ≤ c ∧ RdS sL (H9 W) A n ls := by
  obtain ⟨n, h⟩ := N2 Try.underlying29 hv h
  exact IM Try.underlying29 PD (by kernel_rfl) (by decide) h
set_option maxRecDepth 100000 in
theorem QU {v : Value} {d : DataW H} {p : List MemPlace} {b0 : Nat} (hv : Value.okWide Try.prog W .any b0 62 v) (h : DataW.Trod enc Try.prog W 0 sp hd 62 v d p) : ∃ t g : Int, v = .agg #[.int .i64 t, .int .i64 g] := by
  obtain ⟨v0, v1, y0, y1, n, rfl, _, _, h0, h1⟩ := open_agg2 Try.underlying62 (by kernel_rfl) (by kernel_rfl) hv h
  obtain ⟨t, e0, _⟩ := DataW.trod_int Try.underlying3 h0
  obtain ⟨g, e1, _⟩ := DataW.trod_int Try.underlying3 h1
  cases e0
  cases e1
  exact ⟨t, g, rfl⟩
end
end Go.Proofs.Ytkdjkkimngeloaa
