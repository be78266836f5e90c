/- For all inputs the law QueueFair returns true, and what came in reads as it did. -/
import Derived.Test.YtgcefaikdplbkaaKa1
import Derived.Test.YtgcefaikdplbkaaB20
import Derived.Test.YtgcefaikdplbkaaQL8
namespace Go.Proofs.Ytgcefaikdplbkaa
open Go.RowKit Go.ChangeShapes Go.WideShapes Go.Deep Go.Joins

set_option maxRecDepth 20000 in
theorem law_Fair {σ : Hp} {w : Int} {r l : SL} {B : List BthG} {ws : Nat → SL} {G : List Grp} (he : EvR σ r B l ws G) : FCalls Try.prog N_law07_QueueFair #[.agg #[r.v, .int .i64 w], l.v] σ fun v _ => v = .bool true := by
  refine M_law07_QueueFair_ok _ _ _ _ _ _ _ _ _ ?_
  unfold M_law07_QueueFair
  refine clB M_law07_Far_enter (c_Far he) (bc_b (fun _ => l_works (rt_of rfl)) (fun hf => ?_))
  obtain ⟨f1, f2, f3⟩ := far_no hf
  have fw : ∀ k, (h : k < G.length) → G[k].wants.length ≤ 4294967296 := fun k hk => by have := f3 k hk; omega
  obtain ⟨V, hm, hD, hpl⟩ := lawPlay_ex w B G
  refine cl_of M_law07_play_enter ((hpl σ r l ws he).1 (by omega) (by omega) fw) ?_
  rintro v σ8 ⟨s, rfl, hs, hrd⟩
  refine ⟨_, _, _, _, rfl, bc_b (fun _ => l_works (rt_of rfl)) (fun hc => ?_)⟩
  have hc : chkQ w B G = 0 := by simpa using hc
  have hv := chkQ_val hc
  rw [vsL_ok hc] at hrd
  have D := hD hv
  have he8 := he.sub hs
  have hrn := he8.lenR
  have hsn : s.n = V.length := hrd.1
  have hVl := D.len
  refine cut_intro fun J16 h16 => ?_
  have k16 : ∀ τ, J16 τ := by
    intro τ
    rw [h16]
    intro _
    exact l_works (rt_of rfl)
  refine ⟨fun m i τ => ∃ k : Nat, m = V.length - k ∧ i = k ∧ k ≤ V.length ∧ Hp.Sub σ8 τ, ⟨_, 0, rfl, rfl, by omega, Hp.Sub.refl _⟩, ?_⟩
  rintro m i τ ⟨k, rfl, rfl, hk, hτ⟩ _
  refine bc_d (fun hlt => ?_) (fun _ => k16 τ)
  have hkl : k < V.length := by omega
  refine cut_intro fun J27 h27 => ?_
  have k27 : ∀ τ', Hp.Sub σ8 τ' → J27 τ' := by
    intro τ' hτ'
    rw [h27]
    intro _
    exact wk_i (by omega) (bk_of _ (by omega) ⟨k + 1, rfl, by omega, by omega, hτ'⟩)
  refine ⟨fun m i τ' => ∃ t : Nat, m = V.length - t ∧ i = t ∧ t ≤ V.length ∧ Hp.Sub σ8 τ', ⟨_, 0, rfl, rfl, by omega, hτ⟩, ?_⟩
  rintro m i τ' ⟨t, rfl, rfl, ht2, hτ'⟩ _
  refine bc_d (fun hlt2 => ?_) (fun _ => k27 _ hτ')
  have htl : t < V.length := by omega
  refine cut_intro fun J38 h38 => ?_
  have k38 : ∀ τ2, Hp.Sub σ8 τ2 → J38 τ2 := by
    intro τ2 h2
    rw [h38]
    intro _
    exact wk_i (by omega) (bk_of _ (by omega) ⟨t + 1, rfl, by omega, by omega, h2⟩)
  obtain ⟨v, ev⟩ : ∃ v, v = V[k] := ⟨_, rfl⟩
  obtain ⟨u, eu⟩ : ∃ u, u = V[t] := ⟨_, rfl⟩
  have hmem : v ∈ V := by rw [ev]; exact List.getElem_mem hkl
  have hmemu : u ∈ V := by rw [eu]; exact List.getElem_mem htl
  obtain ⟨_, ⟨w0, w1⟩, hr, _⟩ : (0 ≤ v.1 ∧ v.1 < G.length) ∧ (0 ≤ v.2.1 ∧ v.2.1 < (gd G v.1).wants.length) ∧ v.2.2.1 = gt (gd G v.1).wants v.2.1 ∧ True := ⟨(D.vi v hmem).1, (D.vi v hmem).2.1, (D.vi v hmem).2.2.1, trivial⟩
  have hrr : 0 ≤ v.2.2.1 ∧ v.2.2.1 < B.length := by rw [hr]; exact hv.want w0 w1
  have hfair : (bd B v.2.2.1).fill = false → v.2.2.2.1 = true → u.2.2.1 = v.2.2.1 → u.2.2.2.2.1 < v.2.2.2.2.1 → u.2.2.2.2.2 ≤ v.2.2.2.2.2 := fun e1 e2 e3 e4 => D.f v.2.2.1 hrr.1 hrr.2 e1 v hmem e2 rfl u hmemu e3 e4
  refine cut_intro fun J44 h44 => ?_
  have k44 : ∀ (b1 b2 : Nat) (τ2 : Hp), Hp.Sub σ8 τ2 → τ2 b1 = some (.cells #[.int .i64 v.1, .int .i64 v.2.1, .int .i64 v.2.2.1, .bool v.2.2.2.1, .int .i64 v.2.2.2.2.1, .int .i64 v.2.2.2.2.2] 42 (0, 0), true) → τ2 b2 = some (.cells #[.int .i64 u.1, .int .i64 u.2.1, .int .i64 u.2.2.1, .bool u.2.2.2.1, .int .i64 u.2.2.2.2.1, .int .i64 u.2.2.2.2.2] 42 (0, 0), true) → J44 (some ⟨b1, 0, none⟩) (some ⟨b2, 0, none⟩) τ2 := by
    intro b1 b2 τ2 a p1 p2
    rw [h44]
    intro _
    refine cut_intro fun J49 h49 => ?_
    have k49 : J49 τ2 := by
      rw [h49]
      intro _
      refine cut_intro fun J52 h52 => ?_
      have k52 : J52 false τ2 := by
        rw [h52]
        intro _
        exact k38 _ a
      refine dr_i (bldI p1 rfl (dr_i (bldI p2 rfl (bc_d (fun e1 => ?_) (fun _ => k52)))))
      refine dr_i (bldI p1 rfl ((he8.sub a).rix hrr.1 hrr.2 fun b o _ _ _ _ d4 => ldB_of d4 (bc_b (fun e2 => ?_) (fun _ => k52))))
      refine dr_i (bldB p1 rfl (bc_b (fun e3 => ?_) (fun _ => k52)))
      refine dr_i (bldI p2 rfl (dr_i (bldI p1 rfl (bc_d (fun e4 => ?_) (fun _ => k52)))))
      refine dr_i (bldI p2 rfl (dr_i (bldI p1 rfl ?_)))
      have := hfair (by simpa using e2) e3 e1.symm e4
      rw [decide_eq_false (by omega)]
      exact k52
    refine cut_intro fun J83 h83 => ?_
    have k83 : J83 false τ2 := by
      rw [h83]
      intro _
      exact k49
    refine dr_i (bldI p1 rfl (bc_d (fun h => absurd h (by omega)) (fun _ => dr_i (bldI p1 rfl ?_))))
    rw [decide_eq_false (by omega)]
    exact k83
  have leaf : bx τ' (.cells #[.int .i64 v.1, .int .i64 v.2.1, .int .i64 v.2.2.1, .bool v.2.2.2.1, .int .i64 v.2.2.2.2.1, .int .i64 v.2.2.2.2.2] 42 (0, 0)) fun b1 σ1 => bx σ1 (.cells #[.int .i64 u.1, .int .i64 u.2.1, .int .i64 u.2.2.1, .bool u.2.2.2.1, .int .i64 u.2.2.2.2.1, .int .i64 u.2.2.2.2.2] 42 (0, 0)) fun b2 σ2 => J44 (some ⟨b1, 0, none⟩) (some ⟨b2, 0, none⟩) σ2 := by
    intro b1 n1 b2 n2
    exact k44 b1 b2 _ ((hτ'.trans (Hp.Sub.ins _ n1)).trans (Hp.Sub.ins _ n2)) (Hp.Sub.ins _ n2 _ _ (Hp.ins_same ..)) (Hp.ins_same ..)
  have hrdτ : RdS sV τ' s.A s.n V := RdS.sub hrd hτ'
  refine hrdτ.vix hkl ev.symm fun b o c0 c1 c2 c3 c4 c5 => ldI_of c0 (ldI_of c1 (ldI_of c2 (ldB_of c3 (ldI_of c4 (ldI_of c5 ?_)))))
  refine hrdτ.vix htl eu.symm fun b o c0 c1 c2 c3 c4 c5 => ?_
  repeat' (first | exact ldI_of c0 (ldI_of c1 (ldI_of c2 (ldB_of c3 (ldI_of c4 (ldI_of c5 leaf))))) | exact ldI_of c0 (ldI_of c1 (ldI_of c2 (ldB_of c3 (ldI_of c4 (ldI_of c5 ⟨leaf, leaf⟩))))) | apply And.intro)
set_option maxRecDepth 100000 in
theorem lifted_Fair (os : Os) (started : os.Started) (H : Type) (enc : TypeId × Value → H) :
    ReturnsInHanded {} Try.checked os N_law07_QueueFair .any (Rows.queueFairSpec.pre6 enc Try.prog Try.f8 Rows.queueFairRow.domain false) (Rows.queueFairSpec.post enc Try.prog Try.f8 false true false false) := by
  refine returnsInHanded_of_change (C := Try.checked) Try.own started (by kernel_rfl) Try.func8
    (ChangeSpec.witness6 (enc := enc) (C := Try.checked) false ⟨#[], #[.agg #[.slice none 0 0, .int .i64 0], .slice none 0 0], []⟩ 8 (by kernel_rfl) (by kernel_rfl) (by kernel_rfl) (by kernel_rfl)) ?_
  intro W base args ds gs before hval0 hW _ _
  have hval : ∀ (j : Nat) t v, Try.f8.params[j]? = some t → args[j]? = some v → Value.okWide Try.prog W .any base t v := hval0
  have hW' := hW
  obtain ⟨p, q, hA0, hV, rfl, hfz, hnd⟩ := hW
  have hA : DataW.TrodAll enc Try.prog W 0 (fun _ => true) true Try.f8.params.toList args.toList ds p := hA0
  have hA1 := hA
  rw [Try.params8] at hA hval
  obtain ⟨v0, v1, d0, d1, p0, p1, rfl, rfl, rfl, h0, h1⟩ := trodAll_two hA
  obtain ⟨rfl, rfl⟩ := trodVars_none hV
  obtain ⟨r, w, B, rfl, hr⟩ := open_evening (hval 0 24 v0 rfl rfl) h0
  obtain ⟨l, ws, G, rfl, hl, hw⟩ := open_groups (hval 1 25 v1 rfl rfl) h1
  simp only [List.append_nil] at hW' hA1
  exact law_shut Try.laidOut (by kernel_rfl) rfl Try.underlying4 rfl rfl hW' hA1 (law_Fair ⟨hr, hl, hw⟩)
theorem queueFair_holds : Rows.QueueFairSaid :=
  OpenClaim.holds_of_wide N_law07_QueueFair Try.f8 rfl rfl rfl rfl rfl rfl rfl ⟨rfl, rfl, rfl, rfl, rfl⟩ rfl rfl rfl rfl rfl (by kernel_rfl) Try.func8 (by kernel_rfl)
    (of_decide_eq_true (by kernel_rfl)) (by unfold Func.isWrapper; rw [if_neg (of_decide_eq_false (by kernel_rfl))]; exact ⟨rfl, rfl⟩)
    (fun os started H enc _ => lifted_Fair os started H enc)
#print axioms queueFair_holds
end Go.Proofs.Ytgcefaikdplbkaa
