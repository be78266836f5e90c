/- Trimmed by wip/trim.py to what this claim rests on. -/
import Derived.Test.YtkdjkkimngeloaaZKc1
import Derived.Test.YtkdjkkimngeloaaZVd3
namespace Go.Proofs.Ytkdjkkimngeloaa
open Go.RowKit Go.ChangeShapes Go.WideShapes Go.Deep Go.Joins
set_option maxRecDepth 100000 in
theorem Ml {σ : Hp} {w : MW} {m : Mp} {l : Lry} (h : MIn σ w m) : Ae Try.prog BR #[w.v, l.v] σ fun v _ => v = .bool true := by
  refine Ej _ _ _ _ _ _ _ _ _ _ _ _ _ _ ?_
  unfold BN
  refine PT h fun σ5 hs5 => Ib (fun _ => Ow (Az rfl)) (fun hf => ?_)
  obtain ⟨hf, f1, f2, _⟩ := Rd hf
  refine SC (h.up hs5) hf fun w1 σ11 hs11 h1 => ?_
  have hs := hs5.trans hs11
  refine Bp F5 (P1 (l := l) h1 (by omega) (by omega)) ?_
  intro v σ15 hq
  have hp : ∃ A n c e, ∃ xs : List Int, v = .tuple #[.slice A n c, .int .i64 e] ∧ Hp.Sub σ11 σ15 ∧ RdS [.int .i64] σ15 A n xs ∧ List.length (α := Int) xs ≤ 4294967296 ∧ e = eC m [l] ∧ ((¬ e = 0 ∧ xs = []) ∨ (e = 0 ∧ NC m l xs m.pk.length)) := by
    rcases hq with ⟨e, rfl, rfl⟩ | ⟨e0, hm, hl, A, n, c, xs, rfl, ho, hx⟩
    · exact ⟨_, _, _, _, [], rfl, Hp.Sub.refl _, ⟨rfl, .inl rfl⟩, Nat.zero_le _, rfl, .inl ⟨e, rfl⟩⟩
    · exact ⟨_, _, _, _, xs, rfl, ho.sub, ho.rd, by rw [hx.1]; omega, e0.symm, .inr ⟨rfl, hx⟩⟩
  obtain ⟨A, n, c, e, xs, rfl, hs15, hrd, hlen, he, hcase⟩ := hp
  clear hq
  refine ⟨_, _, _, _, rfl, ?_⟩
  refine Bp GH (QW (l := l) (h.up (hs.trans hs15)) (by omega) (by omega)) ?_
  rintro v σ19 ⟨hs19, hq⟩
  have hp : ∃ A n c e', ∃ ys : List Int, v = .tuple #[.slice A n c, .int .i64 e'] ∧ RdS [.int .i64] σ19 A n ys ∧ e' = e ∧ ys = xs := by
    rcases hq with ⟨e1, rfl⟩ | ⟨e0, A', n', c', ys, rfl, hr, hx⟩
    · rcases hcase with ⟨_, rfl⟩ | ⟨e0, _⟩
      · exact ⟨_, _, _, _, [], rfl, ⟨rfl, .inl rfl⟩, he.symm, rfl⟩
      · exact absurd (he.symm.trans e0) e1
    · rcases hcase with ⟨e1, _⟩ | ⟨e1, hx2⟩
      · exact absurd (he.trans e0) e1
      · exact ⟨_, _, _, _, ys, rfl, hr, e1.symm, hx.uniq hx2⟩
  obtain ⟨A', n', c', e', ys, rfl, hrd', rfl, rfl⟩ := hp
  refine ⟨_, _, _, _, rfl, ?_⟩
  refine clB Fq (Nv (hrd.sub hs19) hrd' hlen) ?_
  rw [decide_eq_true rfl]
  exact Fh (Ba (fun _ => Ow (Az rfl)) (fun h => absurd rfl h))
set_option maxRecDepth 100000 in
theorem JX (os : Os) (started : os.Started) (H : Type) (enc : TypeId × Value → H) :
    ReturnsInHanded {} Try.checked os BR .any (Rows.convoyReachesSpec.pre6 enc Try.prog Try.f6 Rows.convoyReachesRow.domain false) (Rows.convoyReachesSpec.post enc Try.prog Try.f6 false true false false) := by
  refine returnsInHanded_of_change (C := Try.checked) Try.own started (by kernel_rfl) Try.func6
    (ChangeSpec.witness6 (enc := enc) (C := Try.checked) false ⟨#[], #[.agg #[.slice none 0 0, .slice none 0 0], .agg #[.int .i64 0, .int .i64 0, .int .i64 0, .int .i64 0, .int .i64 0, .int .i64 0]], []⟩ 8 (by kernel_rfl) (by kernel_rfl) (by kernel_rfl) (by kernel_rfl)) ?_
  intro W base args ds gs before hval0 hW _ _
  have hval : ∀ (j : Nat) t v, Try.f6.params[j]? = some t → args[j]? = some v → Value.okWide Try.prog W .any base t v := hval0
  have hW' := hW
  obtain ⟨p, q, hA0, hV, rfl, hfz, hnd⟩ := hW
  have hA : DataW.TrodAll enc Try.prog W 0 (fun _ => true) true Try.f6.params.toList args.toList ds p := hA0
  have hA1 := hA
  rw [Try.params6] at hA hval
  obtain ⟨v0, v1, d0, d1, p0, p1, rfl, rfl, rfl, h0, h1⟩ := trodAll_two hA
  obtain ⟨rfl, rfl⟩ := trodVars_none hV
  obtain ⟨w, m, rfl, hm⟩ := P3 (hval 0 25 v0 rfl rfl) h0
  obtain ⟨l, rfl⟩ := NA (hval 1 27 v1 rfl rfl) h1
  simp only [List.append_nil] at hW' hA1
  exact Qk Try.laidOut (by kernel_rfl) rfl Try.underlying4 rfl rfl hW' hA1 (Ml hm)
theorem convoyReaches_holds : Rows.ConvoyReachesSaid :=
  OpenClaim.holds_of_wide BR Try.f6 rfl rfl rfl rfl rfl rfl rfl ⟨rfl, rfl, rfl, rfl, rfl⟩ rfl rfl rfl rfl rfl (by kernel_rfl) Try.func6 (by kernel_rfl)
    (of_decide_eq_true (by kernel_rfl)) (by unfold Func.isWrapper; rw [if_neg (of_decide_eq_false (by kernel_rfl))]; exact ⟨rfl, rfl⟩)
    (fun os started H enc _ => JX os started H enc)
end Go.Proofs.Ytkdjkkimngeloaa
