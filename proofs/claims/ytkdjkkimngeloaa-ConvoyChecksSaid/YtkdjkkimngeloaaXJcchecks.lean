/- Trimmed by wip/trim.py to what this claim rests on. -/
import Derived.Test.YtkdjkkimngeloaaXKc1
import Derived.Test.YtkdjkkimngeloaaXVd2
namespace Go.Proofs.Ytkdjkkimngeloaa
open Go.RowKit Go.ChangeShapes Go.WideShapes Go.Deep Go.Joins
set_option maxRecDepth 100000 in
theorem Mi {σ : Hp} {w : MW} {m : Mp} {l : Lry} {r : Int} (h : MIn σ w m) : Ad Try.prog BL #[w.v, l.v, .int .i64 r] σ fun v _ => v = .bool true := by
  refine Ec _ _ _ _ _ _ _ _ _ _ _ _ _ _ _ ?_
  unfold BN
  refine clB GW (RD h) (Lg (fun _ => NC (Au rfl)) (fun hf => ?_))
  obtain ⟨f1, f2⟩ := NF hf
  refine OJ h hf fun w1 σ8 hs8 h1 => ?_
  refine BU F7 (Ro (l := l) (r := r) h1 (by omega) (by omega)) ?_
  rintro v σ12 ⟨rfl, rfl⟩
  refine ⟨_, _, rfl, ?_⟩
  refine BU GI (Qd (l := l) (r := r) (h.up hs8) (by omega) (by omega)) ?_
  rintro v σ16 ⟨rfl, rfl⟩
  refine ⟨_, _, rfl, ?_⟩
  refine OJ (h.up hs8) hf fun w2 σ20 hs20 h2 => ?_
  refine RN FP (P3 (l := l) h2 (by omega) (by omega)) ?_
  refine clI C4 (K9 (l := l) (h.up (hs8.trans hs20)) (by omega) (by omega)) ?_
  refine BX (fun _ => ?_) (fun h => absurd rfl h)
  rw [beq_self_eq_true]
  refine Hc (BX (fun _ => NC (Au rfl)) (fun h => absurd rfl h))
set_option maxRecDepth 100000 in
theorem JN (os : Os) (started : os.Started) (H : Type) (enc : TypeId × Value → H) :
    ReturnsInHanded {} Try.checked os BL .any (Rows.convoyChecksSpec.pre6 enc Try.prog Try.f5 Rows.convoyChecksRow.domain false) (Rows.convoyChecksSpec.post enc Try.prog Try.f5 false true false false) := by
  refine returnsInHanded_of_change (C := Try.checked) Try.own started (by kernel_rfl) Try.func5
    (ChangeSpec.witness6 (enc := enc) (C := Try.checked) false ⟨#[], #[.agg #[.slice none 0 0, .slice none 0 0], .agg #[.int .i64 0, .int .i64 0, .int .i64 0, .int .i64 0, .int .i64 0, .int .i64 0], .int .i64 0], []⟩ 8 (by kernel_rfl) (by kernel_rfl) (by kernel_rfl) (by kernel_rfl)) ?_
  intro W base args ds gs before hval0 hW _ _
  have hval : ∀ (j : Nat) t v, Try.f5.params[j]? = some t → args[j]? = some v → Value.okWide Try.prog W .any base t v := hval0
  have hW' := hW
  obtain ⟨p, q, hA0, hV, rfl, hfz, hnd⟩ := hW
  have hA : DataW.TrodAll enc Try.prog W 0 (fun _ => true) true Try.f5.params.toList args.toList ds p := hA0
  have hA1 := hA
  rw [Try.params5] at hA hval
  obtain ⟨v0, v1, v2, d0, d1, d2, p0, p1, p2, rfl, rfl, rfl, h0, h1, h2⟩ := trodAll_three hA
  obtain ⟨rfl, rfl⟩ := trodVars_none hV
  obtain ⟨w, m, rfl, hm⟩ := OT (hval 0 25 v0 rfl rfl) h0
  obtain ⟨l, rfl⟩ := My (hval 1 27 v1 rfl rfl) h1
  obtain ⟨t, rfl⟩ := O8 (hval 2 3 v2 rfl rfl) h2
  simp only [List.append_nil] at hW' hA1
  exact PE Try.laidOut (by kernel_rfl) rfl Try.underlying4 rfl rfl hW' hA1 (Mi hm)
theorem convoyChecks_holds : Rows.ConvoyChecksSaid :=
  OpenClaim.holds_of_wide BL Try.f5 rfl rfl rfl rfl rfl rfl rfl ⟨rfl, rfl, rfl, rfl, rfl⟩ rfl rfl rfl rfl rfl (by kernel_rfl) Try.func5 (by kernel_rfl)
    (of_decide_eq_true (by kernel_rfl)) (by unfold Func.isWrapper; rw [if_neg (of_decide_eq_false (by kernel_rfl))]; exact ⟨rfl, rfl⟩)
    (fun os started H enc _ => JN os started H enc)
end Go.Proofs.Ytkdjkkimngeloaa
