/- For all inputs the law QueueChecks returns true, and what came in reads as it did. -/
import Derived.Test.YtgcefaikdplbkaaKa1
import Derived.Test.YtgcefaikdplbkaaQL3
namespace Go.Proofs.Ytgcefaikdplbkaa
open Go.RowKit Go.ChangeShapes Go.WideShapes Go.Deep Go.Joins

theorem law_Checks {σ : Hp} {w : Int} {r l : SL} {B : List BthG} {ws : Nat → SL} {G : List Grp} (he : EvR σ r B l ws G) : FCalls Try.prog N_law07_QueueChecks #[.agg #[r.v, .int .i64 w], l.v] σ fun v _ => v = .bool true := by
  refine M_law07_QueueChecks_ok _ _ _ _ _ _ _ _ _ ?_
  unfold M_law07_QueueChecks
  refine clB M_law07_Far_enter (c_Far he) (bc_b (fun _ => l_works (rt_of rfl)) (fun hf => ?_))
  obtain ⟨f1, f2, f3⟩ := far_no hf
  refine cl_of M_ref07_Copy_enter (c_Copy he (by omega)) ?_
  rintro v σ8 ⟨r', rfl, ho⟩
  refine ⟨_, _, _, _, rfl, ho.sub, ?_⟩
  have he8 := he.sub ho.sub
  refine cl_of M_ref07_CopyGroups_enter (c_CopyGroups he8 (by omega) fun k hk => by have := f3 k hk; omega) ?_
  rintro v σ12 ⟨l', ws', rfl, hs, hl', hw'⟩
  refine ⟨_, _, _, rfl, hs, ?_⟩
  have he' : EvR σ12 r' B l' ws' G := ⟨ho.rd.sub hs, hl', hw'⟩
  refine clI M_queue_Check_enter (c_Check he') ⟨Hp.Sub.refl _, ?_⟩
  refine clI M_ref07_Check_enter (c_refCheck (he8.sub hs) (by omega) (by omega) fun k hk => by have := f3 k hk; omega) ?_
  exact bc_d (fun _ => l_works (rt_of rfl)) (fun h => absurd rfl h)
set_option maxRecDepth 100000 in
theorem lifted_Checks (os : Os) (started : os.Started) (H : Type) (enc : TypeId × Value → H) :
    ReturnsInHanded {} Try.checked os N_law07_QueueChecks .any (Rows.queueChecksSpec.pre6 enc Try.prog Try.f3 Rows.queueChecksRow.domain false) (Rows.queueChecksSpec.post enc Try.prog Try.f3 false true false false) := by
  refine returnsInHanded_of_change (C := Try.checked) Try.own started (by kernel_rfl) Try.func3
    (ChangeSpec.witness6 (enc := enc) (C := Try.checked) false ⟨#[], #[.agg #[.slice none 0 0, .int .i64 0], .slice none 0 0], []⟩ 8 (by kernel_rfl) (by kernel_rfl) (by kernel_rfl) (by kernel_rfl)) ?_
  intro W base args ds gs before hval0 hW _ _
  have hval : ∀ (j : Nat) t v, Try.f3.params[j]? = some t → args[j]? = some v → Value.okWide Try.prog W .any base t v := hval0
  have hW' := hW
  obtain ⟨p, q, hA0, hV, rfl, hfz, hnd⟩ := hW
  have hA : DataW.TrodAll enc Try.prog W 0 (fun _ => true) true Try.f3.params.toList args.toList ds p := hA0
  have hA1 := hA
  rw [Try.params3] at hA hval
  obtain ⟨v0, v1, d0, d1, p0, p1, rfl, rfl, rfl, h0, h1⟩ := trodAll_two hA
  obtain ⟨rfl, rfl⟩ := trodVars_none hV
  obtain ⟨r, w, B, rfl, hr⟩ := open_evening (hval 0 24 v0 rfl rfl) h0
  obtain ⟨l, ws, G, rfl, hl, hw⟩ := open_groups (hval 1 25 v1 rfl rfl) h1
  simp only [List.append_nil] at hW' hA1
  exact law_shut Try.laidOut (by kernel_rfl) rfl Try.underlying4 rfl rfl hW' hA1 (law_Checks ⟨hr, hl, hw⟩)
theorem queueChecks_holds : Rows.QueueChecksSaid :=
  OpenClaim.holds_of_wide N_law07_QueueChecks Try.f3 rfl rfl rfl rfl rfl rfl rfl ⟨rfl, rfl, rfl, rfl, rfl⟩ rfl rfl rfl rfl rfl (by kernel_rfl) Try.func3 (by kernel_rfl)
    (of_decide_eq_true (by kernel_rfl)) (by unfold Func.isWrapper; rw [if_neg (of_decide_eq_false (by kernel_rfl))]; exact ⟨rfl, rfl⟩)
    (fun os started H enc _ => lifted_Checks os started H enc)
#print axioms queueChecks_holds
end Go.Proofs.Ytgcefaikdplbkaa
