/- For all inputs the law QueuePlays returns true, and what came in reads as it did. -/
import Derived.Test.YtgcefaikdplbkaaKa1
import Derived.Test.YtgcefaikdplbkaaRb1
import Derived.Test.YtgcefaikdplbkaaQL6
namespace Go.Proofs.Ytgcefaikdplbkaa
open Go.RowKit Go.ChangeShapes Go.WideShapes Go.Deep Go.Joins

theorem played_vlen {w : Int} {B : List BthG} {G : List Grp} {c : Int} (h : chkQ w B G = c) : (vsL c (Ngt.played w B G).visits).length ≤ 4294967296 := by
  by_cases hc : c = 0
  · subst hc
    have hv := run_vis (chkQ_val h)
    refine Nat.le_trans vsL_len ?_
    rw [played_visits]
    exact Nat.le_trans (Nat.le_of_eq (sortB_length ..)) hv.l
  · rw [vsL, if_neg hc]
    exact Nat.zero_le _
theorem law_Plays {σ : Hp} {w : Int} {r l : SL} {B : List BthG} {ws : Nat → SL} {G : List Grp} (he : EvR σ r B l ws G) : FCalls Try.prog N_law07_QueuePlays #[.agg #[r.v, .int .i64 w], l.v] σ fun v _ => v = .bool true := by
  refine M_law07_QueuePlays_ok _ _ _ _ _ _ _ _ _ ?_
  unfold M_law07_QueuePlays
  refine clB M_law07_Far_enter (c_Far he) (bc_b (fun _ => l_works (rt_of rfl)) (fun hf => ?_))
  obtain ⟨f1, f2, f3⟩ := far_no hf
  have fw : ∀ k, (h : k < G.length) → G[k].wants.length ≤ 4294967296 := fun k hk => by have := f3 k hk; omega
  refine cl_of M_ref07_CopyGroups_enter (c_CopyGroups he (by omega) fw) ?_
  rintro v σ8 ⟨l', ws', rfl, hs, hl', hw'⟩
  refine ⟨_, _, _, rfl, ?_⟩
  have he8 := he.sub hs
  refine cl_of M_ref07_Copy_enter (c_Copy he8 (by omega)) ?_
  rintro v σ11 ⟨r', rfl, ho⟩
  refine ⟨_, _, _, _, rfl, ?_⟩
  have he11 := he8.sub ho.sub
  have he' : EvR σ11 r' B l' ws' G := ⟨ho.rd, hl'.sub ho.sub, fun i hi => (hw' i hi).sub ho.sub⟩
  refine cl_of M_queue_Play_enter (c_Play he') ?_
  rintro v σ15 ⟨s, rfl, hs15, hrd⟩
  refine ⟨_, _, _, _, rfl, ?_⟩
  refine cl_of M_ref07_Play_enter (c_refPlay (he11.sub hs15) (by omega) (by omega) fw) ?_
  rintro v σ19 ⟨s', rfl, hs19, hrd'⟩
  refine ⟨_, _, _, _, rfl, ?_⟩
  refine clB M_law07_sameVisits_enter (c_sameVisits (hrd.sub hs19) hrd' (played_vlen rfl) rfl) ?_
  refine bc_d (fun _ => ?_) (fun h => absurd rfl h)
  refine cl_of M_law07_sameGroups_enter (c_sameGroups ((he'.sub hs15).sub hs19) ((he11.sub hs15).sub hs19) (by omega) fw) ?_
  rintro v σ26 rfl
  exact ⟨_, rfl, l_works (rt_of rfl)⟩
set_option maxRecDepth 100000 in
theorem lifted_Plays (os : Os) (started : os.Started) (H : Type) (enc : TypeId × Value → H) :
    ReturnsInHanded {} Try.checked os N_law07_QueuePlays .any (Rows.queuePlaysSpec.pre6 enc Try.prog Try.f6 Rows.queuePlaysRow.domain false) (Rows.queuePlaysSpec.post enc Try.prog Try.f6 false true false false) := by
  refine returnsInHanded_of_change (C := Try.checked) Try.own started (by kernel_rfl) Try.func6
    (ChangeSpec.witness6 (enc := enc) (C := Try.checked) false ⟨#[], #[.agg #[.slice none 0 0, .int .i64 0], .slice none 0 0], []⟩ 8 (by kernel_rfl) (by kernel_rfl) (by kernel_rfl) (by kernel_rfl)) ?_
  intro W base args ds gs before hval0 hW _ _
  have hval : ∀ (j : Nat) t v, Try.f6.params[j]? = some t → args[j]? = some v → Value.okWide Try.prog W .any base t v := hval0
  have hW' := hW
  obtain ⟨p, q, hA0, hV, rfl, hfz, hnd⟩ := hW
  have hA : DataW.TrodAll enc Try.prog W 0 (fun _ => true) true Try.f6.params.toList args.toList ds p := hA0
  have hA1 := hA
  rw [Try.params6] at hA hval
  obtain ⟨v0, v1, d0, d1, p0, p1, rfl, rfl, rfl, h0, h1⟩ := trodAll_two hA
  obtain ⟨rfl, rfl⟩ := trodVars_none hV
  obtain ⟨r, w, B, rfl, hr⟩ := open_evening (hval 0 24 v0 rfl rfl) h0
  obtain ⟨l, ws, G, rfl, hl, hw⟩ := open_groups (hval 1 25 v1 rfl rfl) h1
  simp only [List.append_nil] at hW' hA1
  exact law_shut Try.laidOut (by kernel_rfl) rfl Try.underlying4 rfl rfl hW' hA1 (law_Plays ⟨hr, hl, hw⟩)
theorem queuePlays_holds : Rows.QueuePlaysSaid :=
  OpenClaim.holds_of_wide N_law07_QueuePlays Try.f6 rfl rfl rfl rfl rfl rfl rfl ⟨rfl, rfl, rfl, rfl, rfl⟩ rfl rfl rfl rfl rfl (by kernel_rfl) Try.func6 (by kernel_rfl)
    (of_decide_eq_true (by kernel_rfl)) (by unfold Func.isWrapper; rw [if_neg (of_decide_eq_false (by kernel_rfl))]; exact ⟨rfl, rfl⟩)
    (fun os started H enc _ => lifted_Plays os started H enc)
#print axioms queuePlays_holds
end Go.Proofs.Ytgcefaikdplbkaa
