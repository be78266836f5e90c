/- For all inputs the law QueueTakes returns true, and what came in reads as it did. -/
import Derived.Test.YtgcefaikdplbkaaKa1
import Derived.Test.YtgcefaikdplbkaaRa8
import Derived.Test.YtgcefaikdplbkaaQL5
namespace Go.Proofs.Ytgcefaikdplbkaa
open Go.RowKit Go.ChangeShapes Go.WideShapes Go.Deep Go.Joins

theorem law_Takes {σ : Hp} {w : Int} {r l : SL} {B : List BthG} {ws : Nat → SL} {G : List Grp} (he : EvR σ r B l ws G) : FCalls Try.prog N_law07_QueueTakes #[.agg #[r.v, .int .i64 w], l.v] σ fun v _ => v = .bool true := by
  refine M_law07_QueueTakes_ok _ _ _ _ _ _ _ _ _ ?_
  unfold M_law07_QueueTakes
  refine clB M_law07_Far_enter (c_Far he) (bc_b (fun _ => l_works (rt_of rfl)) (fun hf => ?_))
  obtain ⟨f1, f2, f3⟩ := far_no hf
  have fw : ∀ k, (h : k < G.length) → G[k].wants.length ≤ 4294967296 := fun k hk => by have := f3 k hk; omega
  refine cl_of M_ref07_Copy_enter (c_Copy he (by omega)) ?_
  rintro v σ8 ⟨r', rfl, ho⟩
  refine ⟨_, _, _, _, rfl, ?_⟩
  have he8 := he.sub ho.sub
  refine cl_of M_ref07_CopyGroups_enter (c_CopyGroups he8 (by omega) fw) ?_
  rintro v σ12 ⟨l', ws', rfl, hs, hl', hw'⟩
  refine ⟨_, _, _, rfl, ?_⟩
  have he' : EvR σ12 r' B l' ws' G := ⟨ho.rd.sub hs, hl', hw'⟩
  refine cl_of M_queue_Takes_enter (c_Takes he') ?_
  rintro v σ15 ⟨s, rfl, hos⟩
  refine ⟨_, _, _, _, rfl, ?_⟩
  have he15 := (he8.sub hs).sub hos.sub
  refine cl_of M_ref07_Takes_enter (c_refTakes he15 (by omega) (by omega) fw) ?_
  rintro v σ19 ⟨s', rfl, hs', hrd⟩
  refine ⟨_, _, _, _, rfl, ?_⟩
  have he19 := he15.sub hs'
  refine cl_of M_ref07_Copy_enter (c_Copy he19 (by omega)) ?_
  rintro v σ23 ⟨r2, rfl, ho2⟩
  refine ⟨_, _, _, _, rfl, ?_⟩
  have he23 := he19.sub ho2.sub
  refine cl_of M_ref07_CopyGroups_enter (c_CopyGroups he23 (by omega) fw) ?_
  rintro v σ27 ⟨l2, ws2, rfl, hs2, hl2, hw2⟩
  refine ⟨_, _, _, rfl, ?_⟩
  have he2 : EvR σ27 r2 B l2 ws2 G := ⟨ho2.rd.sub hs2, hl2, hw2⟩
  refine cl_of M_queue_Held_enter (c_Held he2) ?_
  rintro v σ30 ⟨s3, rfl, hos3⟩
  refine ⟨_, _, _, _, rfl, ?_⟩
  have he30 := (he23.sub hs2).sub hos3.sub
  refine cl_of M_ref07_Held_enter (c_refHeld he30 (by omega) (by omega) fw) ?_
  rintro v σ34 ⟨s4, rfl, hs4, hrd4⟩
  refine ⟨_, _, _, _, rfl, ?_⟩
  have h34 := (((ho2.sub.trans hs2).trans hos3.sub).trans hs4)
  refine l_same ((hos.rd.sub hs').sub h34) (hrd.sub h34) ?_ ?_
  · refine Nat.le_trans ofL_len ?_
    rw [List.length_map, played_rlen]
    omega
  · refine bc_d (fun _ => l_same (hos3.rd.sub hs4) hrd4 ?_ ?_) (fun h => absurd rfl h)
    · refine Nat.le_trans ofL_len ?_
      rw [List.length_map, played_plen]
      omega
    · exact bc_d (fun _ => l_works (rt_of rfl)) (fun h => absurd rfl h)
set_option maxRecDepth 100000 in
theorem lifted_Takes (os : Os) (started : os.Started) (H : Type) (enc : TypeId × Value → H) :
    ReturnsInHanded {} Try.checked os N_law07_QueueTakes .any (Rows.queueTakesSpec.pre6 enc Try.prog Try.f5 Rows.queueTakesRow.domain false) (Rows.queueTakesSpec.post enc Try.prog Try.f5 false true false false) := by
  refine returnsInHanded_of_change (C := Try.checked) Try.own started (by kernel_rfl) Try.func5
    (ChangeSpec.witness6 (enc := enc) (C := Try.checked) false ⟨#[], #[.agg #[.slice none 0 0, .int .i64 0], .slice none 0 0], []⟩ 8 (by kernel_rfl) (by kernel_rfl) (by kernel_rfl) (by kernel_rfl)) ?_
  intro W base args ds gs before hval0 hW _ _
  have hval : ∀ (j : Nat) t v, Try.f5.params[j]? = some t → args[j]? = some v → Value.okWide Try.prog W .any base t v := hval0
  have hW' := hW
  obtain ⟨p, q, hA0, hV, rfl, hfz, hnd⟩ := hW
  have hA : DataW.TrodAll enc Try.prog W 0 (fun _ => true) true Try.f5.params.toList args.toList ds p := hA0
  have hA1 := hA
  rw [Try.params5] at hA hval
  obtain ⟨v0, v1, d0, d1, p0, p1, rfl, rfl, rfl, h0, h1⟩ := trodAll_two hA
  obtain ⟨rfl, rfl⟩ := trodVars_none hV
  obtain ⟨r, w, B, rfl, hr⟩ := open_evening (hval 0 24 v0 rfl rfl) h0
  obtain ⟨l, ws, G, rfl, hl, hw⟩ := open_groups (hval 1 25 v1 rfl rfl) h1
  simp only [List.append_nil] at hW' hA1
  exact law_shut Try.laidOut (by kernel_rfl) rfl Try.underlying4 rfl rfl hW' hA1 (law_Takes ⟨hr, hl, hw⟩)
theorem queueTakes_holds : Rows.QueueTakesSaid :=
  OpenClaim.holds_of_wide N_law07_QueueTakes Try.f5 rfl rfl rfl rfl rfl rfl rfl ⟨rfl, rfl, rfl, rfl, rfl⟩ rfl rfl rfl rfl rfl (by kernel_rfl) Try.func5 (by kernel_rfl)
    (of_decide_eq_true (by kernel_rfl)) (by unfold Func.isWrapper; rw [if_neg (of_decide_eq_false (by kernel_rfl))]; exact ⟨rfl, rfl⟩)
    (fun os started H enc _ => lifted_Takes os started H enc)
#print axioms queueTakes_holds
end Go.Proofs.Ytgcefaikdplbkaa
