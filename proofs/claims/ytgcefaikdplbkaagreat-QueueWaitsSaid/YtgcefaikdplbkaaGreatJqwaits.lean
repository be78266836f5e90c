/- For all inputs the law QueueWaits returns true, and what came in reads as it did. -/
import Derived.Test.YtgcefaikdplbkaaGreatKa1
import Derived.Test.YtgcefaikdplbkaaGreatRc1
import Derived.Test.YtgcefaikdplbkaaGreatQLWaits
namespace Go.Proofs.YtgcefaikdplbkaaGreat
open Go.RowKit Go.ChangeShapes Go.WideShapes Go.Deep Go.Joins

theorem law_Waits {σ : Hp} {w : Int} {r l : SL} {B : List BthG} {ws : Nat → SL} {G : List Grp} (he : EvR σ r B l ws G) : FCalls Tryz.prog N_law07_QueueWaits #[.agg #[r.v, .int .i64 w], l.v] σ fun v _ => v = .bool true := by
  refine M_law07_QueueWaits_ok _ _ _ _ _ _ _ _ _ ?_
  unfold M_law07_QueueWaits
  refine clB M_law07_Far_enter (c_Far he) (bc_b (fun _ => l_works (rt_of rfl)) (fun hf => ?_))
  obtain ⟨f1, f2, f3⟩ := far_no hf
  have fw : ∀ k, (h : k < G.length) → G[k].wants.length ≤ 4294967296 := fun k hk => by have := f3 k hk; omega
  refine cl_of M_ref07_Copy_enter (c_Copy he (by omega)) ?_
  rintro v σ8 ⟨r', rfl, ho⟩
  refine ⟨_, _, _, _, rfl, ?_⟩
  have he8 := he.sub ho.sub
  refine cl_of M_ref07_CopyGroups_enter (c_CopyGroups he8 (by omega) fw) ?_
  rintro v σ12 ⟨l', ws', rfl, hs, hl', hw'⟩
  refine ⟨_, _, _, rfl, ?_⟩
  have he' : EvR σ12 r' B l' ws' G := ⟨ho.rd.sub hs, hl', hw'⟩
  refine cl_of M_queue_Lines_enter (c_Lines he') ?_
  rintro v σ15 ⟨s, rfl, hos⟩
  refine ⟨_, _, _, _, rfl, ?_⟩
  have he15 := (he8.sub hs).sub hos.sub
  refine cl_of M_ref07_Lines_enter (c_refLines he15 (by omega) (by omega) fw) ?_
  rintro v σ19 ⟨s', rfl, hs', hrd⟩
  refine ⟨_, _, _, _, rfl, ?_⟩
  have he19 := he15.sub hs'
  refine cl_of M_ref07_Copy_enter (c_Copy he19 (by omega)) ?_
  rintro v σ23 ⟨r2, rfl, ho2⟩
  refine ⟨_, _, _, _, rfl, ?_⟩
  have he23 := he19.sub ho2.sub
  refine cl_of M_ref07_CopyGroups_enter (c_CopyGroups he23 (by omega) fw) ?_
  rintro v σ27 ⟨l2, ws2, rfl, hs2, hl2, hw2⟩
  refine ⟨_, _, _, rfl, ?_⟩
  have he2 : EvR σ27 r2 B l2 ws2 G := ⟨ho2.rd.sub hs2, hl2, hw2⟩
  refine cl_of M_queue_Waits_enter (c_Waits he2) ?_
  rintro v σ30 ⟨rfl, hs30⟩
  refine ⟨_, _, _, rfl, ?_⟩
  have he30 := (he23.sub hs2).sub hs30
  refine cl_of M_ref07_Waits_enter (c_refWaits he30 (by omega) (by omega) fw) ?_
  rintro v σ35 ⟨rfl, hs35⟩
  refine ⟨_, _, _, rfl, ?_⟩
  have h35 := (((ho2.sub.trans hs2).trans hs30).trans hs35)
  refine l_same ((hos.rd.sub hs').sub h35) (hrd.sub h35) ?_ ?_
  · refine Nat.le_trans ofL_len ?_
    rw [List.length_map, played_rlen]
    omega
  · exact bc_d (fun _ => bc_d (fun _ => bc_d (fun _ => bc_d (fun _ => l_works (rt_of rfl)) (fun h => absurd rfl h)) (fun h => absurd rfl h)) (fun h => absurd rfl h)) (fun h => absurd rfl h)
set_option maxRecDepth 100000 in
theorem lifted_Waits (os : Os) (started : os.Started) (H : Type) (enc : TypeId × Value → H) :
    ReturnsInHanded {} Tryz.checked os N_law07_QueueWaits .any (Rows.queueWaitsSpec.pre6 enc Tryz.prog Tryz.f3 Rows.queueWaitsRow.domain false) (Rows.queueWaitsSpec.post enc Tryz.prog Tryz.f3 false true false false) := by
  refine returnsInHanded_of_change (C := Tryz.checked) Tryz.own started (by kernel_rfl) Tryz.func3
    (ChangeSpec.witness6 (enc := enc) (C := Tryz.checked) false ⟨#[], #[.agg #[.slice none 0 0, .int .i64 0], .slice none 0 0], []⟩ 8 (by kernel_rfl) (by kernel_rfl) (by kernel_rfl) (by kernel_rfl)) ?_
  intro W base args ds gs before hval0 hW _ _
  have hval : ∀ (j : Nat) t v, Tryz.f3.params[j]? = some t → args[j]? = some v → Value.okWide Tryz.prog W .any base t v := hval0
  have hW' := hW
  obtain ⟨p, q, hA0, hV, rfl, hfz, hnd⟩ := hW
  have hA : DataW.TrodAll enc Tryz.prog W 0 (fun _ => true) true Tryz.f3.params.toList args.toList ds p := hA0
  have hA1 := hA
  rw [Tryz.params3] at hA hval
  obtain ⟨v0, v1, d0, d1, p0, p1, rfl, rfl, rfl, h0, h1⟩ := trodAll_two hA
  obtain ⟨rfl, rfl⟩ := trodVars_none hV
  obtain ⟨r, w, B, rfl, hr⟩ := open_evening (hval 0 24 v0 rfl rfl) h0
  obtain ⟨l, ws, G, rfl, hl, hw⟩ := open_groups (hval 1 25 v1 rfl rfl) h1
  simp only [List.append_nil] at hW' hA1
  exact law_shut Tryz.laidOut (by kernel_rfl) rfl Tryz.underlying4 rfl rfl hW' hA1 (law_Waits ⟨hr, hl, hw⟩)
theorem queueWaits_holds : Rows.QueueWaitsSaid :=
  OpenClaim.holds_of_wide N_law07_QueueWaits Tryz.f3 rfl rfl rfl rfl rfl rfl rfl ⟨rfl, rfl, rfl, rfl, rfl⟩ rfl rfl rfl rfl rfl (by kernel_rfl) Tryz.func3 (by kernel_rfl)
    (of_decide_eq_true (by kernel_rfl)) (by unfold Func.isWrapper; rw [if_neg (of_decide_eq_false (by kernel_rfl))]; exact ⟨rfl, rfl⟩)
    (fun os started H enc _ => lifted_Waits os started H enc)
#print axioms queueWaits_holds
end Go.Proofs.YtgcefaikdplbkaaGreat
