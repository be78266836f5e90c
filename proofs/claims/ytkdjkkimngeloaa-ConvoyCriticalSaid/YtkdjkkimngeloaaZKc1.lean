/- Trimmed by wip/trim.py to what this claim rests on. -/
import Derived.Test.YtkdjkkimngeloaaZJa1
import Derived.Test.YtkdjkkimngeloaaZVb2
namespace Go.Proofs.Ytkdjkkimngeloaa
open Go.RowKit Go.ChangeShapes Go.WideShapes Go.Deep Go.Joins
theorem Try.own : ownKnob Try.prog.godebug = none := by kernel_rfl
theorem Try.laidOut : laidOutB Try.prog = true := by kernel_rfl
theorem Rm : Jd Try.prog 4 [.bool] := Jd.bool Try.underlying4
theorem Rd : Jd Try.prog 51 sR := Jd.struct Try.underlying51 (by kernel_rfl) (by kernel_rfl) (by kernel_rfl)
theorem Qt : Jd Try.prog 27 sL := Jd.struct Try.underlying27 (by kernel_rfl) (by kernel_rfl) (by kernel_rfl)
theorem Sy : Jd Try.prog 60 sJ := Jd.struct Try.underlying60 (by kernel_rfl) (by kernel_rfl) (by kernel_rfl)
section
variable {H : Type} {enc : TypeId × Value → H} {W : World} {sp : Nat → Bool} {hd : Bool}
set_option maxRecDepth 100000 in
theorem R6 {v : Value} {d : DataW H} {p : List MemPlace} {b0 : Nat} (hv : Value.okWide Try.prog W .any b0 25 v) (h : DataW.Trod enc Try.prog W 0 sp hd 25 v d p) : ∃ (w : MW) (m : Mp), v = w.v ∧ MIn (IM W) w m := by
  obtain ⟨v0, v1, y0, y1, n, rfl, _, _, h0, h1⟩ := open_agg2 Try.underlying25 (by kernel_rfl) (by kernel_rfl) hv h
  obtain ⟨A, n, c, xs, rfl, _, hr⟩ := Jn Try.underlying22 Rm (by kernel_rfl) (by decide) h0
  obtain ⟨A', n', c', ys, rfl, _, hr'⟩ := Jn Try.underlying23 Rd (by kernel_rfl) (by decide) h1
  exact ⟨⟨A, n, c, A', n', c'⟩, ⟨xs, ys⟩, rfl, hr, hr'⟩
set_option maxRecDepth 100000 in
theorem Oi {v : Value} {d : DataW H} {p : List MemPlace} {b0 : Nat} (hv : Value.okWide Try.prog W .any b0 27 v) (h : DataW.Trod enc Try.prog W 0 sp hd 27 v d p) : ∃ l : Lry, v = l.v := by
  obtain ⟨cs, rfl, hsz⟩ := okWide_struct Try.underlying27 hv
  obtain ⟨fuel, hf⟩ := h
  have hf : DataW.trod enc Try.prog W 0 sp hd fuel 27 cs.toList = some (d, p) := hf
  obtain ⟨x, e⟩ := Qt _ _ _ _ _ _ _ _ _ hf
  exact ⟨⟨x.1, x.2.1, x.2.2.1, x.2.2.2.1, x.2.2.2.2.1, x.2.2.2.2.2⟩, congrArg Value.agg (Array.toList_inj.1 (show cs.toList = [_, _, _, _, _, _] from e))⟩
set_option maxRecDepth 100000 in
theorem Qr {v : Value} {d : DataW H} {p : List MemPlace} {b0 : Nat} (hv : Value.okWide Try.prog W .any b0 70 v) (h : DataW.Trod enc Try.prog W 0 sp hd 70 v d p) : ∃ (t : Int) (A : Option Addr) (n c : Nat) (j : List Leg), v = .agg #[.int .i64 t, .slice A n c] ∧ n ≤ c ∧ RdS sJ (IM W) A n j := by
  obtain ⟨v0, v1, y0, y1, n, rfl, _, _, h0, h1⟩ := open_agg2 Try.underlying70 (by kernel_rfl) (by kernel_rfl) hv h
  obtain ⟨t, e0, _⟩ := DataW.trod_int Try.underlying3 h0
  cases e0
  obtain ⟨A, n, c, j, rfl, hn, hr⟩ := Jn Try.underlying32 Sy (by kernel_rfl) (by decide) h1
  exact ⟨t, A, n, c, j, rfl, hn, hr⟩
end
end Go.Proofs.Ytkdjkkimngeloaa
