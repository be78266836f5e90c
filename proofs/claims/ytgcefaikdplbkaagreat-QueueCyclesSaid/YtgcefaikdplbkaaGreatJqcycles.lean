/- For all inputs the law QueueCycles returns true, and what came in reads as it did. -/
import Derived.Test.YtgcefaikdplbkaaGreatKa1
import Derived.Test.YtgcefaikdplbkaaGreatRc4
import Derived.Test.YtgcefaikdplbkaaGreatQLCycles
namespace Go.Proofs.YtgcefaikdplbkaaGreat
open Go.RowKit Go.ChangeShapes Go.WideShapes Go.Deep Go.Joins

section
variable {H : Type} {enc : TypeId × Value → H} {W : World} {sp : Nat → Bool} {hd : Bool}
set_option maxRecDepth 100000 in
theorem open_cycles {v : Value} {d : DataW H} {p : List MemPlace} {b0 : Nat} (hv : Value.okWide Tryz.prog W .any b0 44 v) (h : DataW.Trod enc Tryz.prog W 0 sp hd 44 v d p) : ∃ (i a b : Int), v = .agg #[.int .i64 i, .int .i64 a, .int .i64 b] := by
  obtain ⟨v0, v1, v2, y0, y1, y2, n, rfl, _, _, h0, h1, h2⟩ := open_agg3 Tryz.underlying44 (by kernel_rfl) (by kernel_rfl) hv h
  obtain ⟨i, e1, _⟩ := DataW.trod_int Tryz.underlying3 h0
  obtain ⟨a, e2, _⟩ := DataW.trod_int Tryz.underlying3 h1
  obtain ⟨b, e3, _⟩ := DataW.trod_int Tryz.underlying3 h2
  cases e1
  cases e2
  cases e3
  exact ⟨i, a, b, rfl⟩
end
theorem wk_any {k : IntKind} {e : Int} {K : Int → Prop} (h : ∀ n, K n) : wk k e K := h _
section
variable {σ : Hp} {w : Int} {r l : SL} {B : List BthG} {ws : Nat → SL} {G : List Grp}
set_option maxRecDepth 20000 in
theorem law_Cycles {i low high : Int} (he : EvR σ r B l ws G) : FCalls Tryz.prog N_law07_QueueCycles #[.agg #[r.v, .int .i64 w], l.v, .agg #[.int .i64 i, .int .i64 low, .int .i64 high]] σ fun v _ => v = .bool true := by
  refine M_law07_QueueCycles_ok _ _ _ _ _ _ _ _ _ _ _ _ ?_
  unfold M_law07_QueueCycles
  obtain ⟨S, H, hT⟩ := exW w B G i
  refine cut_intro fun J3 h3 => ?_
  have k3 : B.length ≤ 10 → G.length ≤ 70 → (∀ k, (h : k < G.length) → G[k].wants.length ≤ 20) → J3 σ := by
    intro f1 f2 f3
    rw [h3]
    intro _
    have fw : ∀ k, (h : k < G.length) → G[k].wants.length ≤ 4294967296 := fun k hk => by have := f3 k hk; omega
    refine cl_of M_ref07_Copy_enter (c_Copy he (by omega)) ?_
    rintro v σ5 ⟨r', rfl, ho⟩
    refine ⟨_, _, _, _, rfl, ho.sub, ?_⟩
    have he5 := he.sub ho.sub
    refine cl_of M_ref07_CopyGroups_enter (c_CopyGroups he5 (by omega) fw) ?_
    rintro v σ9 ⟨l', ws', rfl, hs, hl', hw'⟩
    refine ⟨_, _, _, rfl, hs, ?_⟩
    have he' : EvR σ9 r' B l' ws' G := ⟨ho.rd.sub hs, hl', hw'⟩
    refine cl_of M_queue_Cycle_enter (c_Cycle he' hT) ?_
    rintro v σ12 ⟨rfl, hs12⟩
    refine ⟨_, _, rfl, ?_⟩
    have he12 := (he5.sub hs).sub hs12
    refine cl_of M_ref07_Cycle_enter (c_refCycle he12 (by omega) (by omega) fw hT) ?_
    rintro v σ16 ⟨rfl, hs16⟩
    exact ⟨_, _, rfl, bc_d (fun _ => bc_d (fun _ => l_works (rt_of rfl)) (fun h => absurd rfl h)) (fun h => absurd rfl h)⟩
  refine cut_intro fun J24 h24 => ?_
  have k24 : ∀ t : Bool, (t = false → B.length ≤ 10 ∧ G.length ≤ 70 ∧ ∀ k, (h : k < G.length) → G[k].wants.length ≤ 20) → J24 t σ := by
    intro t ht
    rw [h24]
    intro _
    exact bc_b (fun _ => l_works (rt_of rfl)) (fun e => k3 (ht e).1 (ht e).2.1 (ht e).2.2)
  refine clB M_law07_Far_enter (c_Far he) (bc_b (fun _ => k24 true fun h => by cases h) (fun hf => ?_))
  have hend : ∀ t, J24 t σ := fun t => k24 t fun _ => far_no hf
  exact bc_d (fun _ => bc_d (fun _ => wk_any fun _ => bc_d (fun _ => wk_any fun _ => hend _) (fun _ => hend _)) (fun _ => hend _)) (fun _ => hend _)
end
set_option maxRecDepth 100000 in
theorem lifted_Cycles (os : Os) (started : os.Started) (H : Type) (enc : TypeId × Value → H) :
    ReturnsInHanded {} Tryz.checked os N_law07_QueueCycles .any (Rows.queueCyclesSpec.pre6 enc Tryz.prog Tryz.f5 Rows.queueCyclesRow.domain false) (Rows.queueCyclesSpec.post enc Tryz.prog Tryz.f5 false true false false) := by
  refine returnsInHanded_of_change (C := Tryz.checked) Tryz.own started (by kernel_rfl) Tryz.func5
    (ChangeSpec.witness6 (enc := enc) (C := Tryz.checked) false ⟨#[], #[.agg #[.slice none 0 0, .int .i64 0], .slice none 0 0, .agg #[.int .i64 0, .int .i64 0, .int .i64 0]], []⟩ 8 (by kernel_rfl) (by kernel_rfl) (by kernel_rfl) (by kernel_rfl)) ?_
  intro W base args ds gs before hval0 hW _ _
  have hval : ∀ (j : Nat) t v, Tryz.f5.params[j]? = some t → args[j]? = some v → Value.okWide Tryz.prog W .any base t v := hval0
  have hW' := hW
  obtain ⟨p, q, hA0, hV, rfl, hfz, hnd⟩ := hW
  have hA : DataW.TrodAll enc Tryz.prog W 0 (fun _ => true) true Tryz.f5.params.toList args.toList ds p := hA0
  have hA1 := hA
  rw [Tryz.params5] at hA hval
  obtain ⟨v0, v1, v2, d0, d1, d2, p0, p1, p2, rfl, rfl, rfl, h0, h1, h2⟩ := trodAll_three hA
  obtain ⟨rfl, rfl⟩ := trodVars_none hV
  obtain ⟨r, w, B, rfl, hr⟩ := open_evening (hval 0 24 v0 rfl rfl) h0
  obtain ⟨l, ws, G, rfl, hl, hw⟩ := open_groups (hval 1 25 v1 rfl rfl) h1
  obtain ⟨cr, cl, ch, rfl⟩ := open_cycles (hval 2 44 v2 rfl rfl) h2
  simp only [List.append_nil] at hW' hA1
  exact law_shut Tryz.laidOut (by kernel_rfl) rfl Tryz.underlying4 rfl rfl hW' hA1 (law_Cycles ⟨hr, hl, hw⟩)
theorem queueCycles_holds : Rows.QueueCyclesSaid :=
  OpenClaim.holds_of_wide N_law07_QueueCycles Tryz.f5 rfl rfl rfl rfl rfl rfl rfl ⟨rfl, rfl, rfl, rfl, rfl⟩ rfl rfl rfl rfl rfl (by kernel_rfl) Tryz.func5 (by kernel_rfl)
    (of_decide_eq_true (by kernel_rfl)) (by unfold Func.isWrapper; rw [if_neg (of_decide_eq_false (by kernel_rfl))]; exact ⟨rfl, rfl⟩)
    (fun os started H enc _ => lifted_Cycles os started H enc)
#print axioms queueCycles_holds
end Go.Proofs.YtgcefaikdplbkaaGreat
