/- For all inputs the law GroundSites returns true, and what came in reads as it did. -/
import Derived.Test.YtmpkiaghkhhlhaaB14
import Derived.Test.YtmpkiaghkhhlhaaB15
import Derived.Test.YtmpkiaghkhhlhaaL5
namespace Go.Proofs.Ytmpkiaghkhhlhaa
open Go.RowKit Go.ChangeShapes Go.WideShapes Go.Deep Go.Joins

theorem sitS_len {g : Gnd} {l : List Pit} {st : List Sit} {a : Int} : (sitS g l st a).1.length ≤ 4294967296 := by
  unfold sitS
  split
  · simp
  · split
    · simp
    · rename_i h _
      have hG := (chkS_ok (Classical.not_not.1 h)).2.1
      have := (Gnd.okS_len hG.s).2.1
      have h2 := plc_len (g := g) (p := pt l a) (full := g.takS l st a l.length) (k := 2 * g.C.length)
      simp only
      omega
theorem law_Sites {σ : Hp} {x : GV} {g : Gnd} {lA sA : Option Addr} {ln lc sn sc : Nat} {l : List Pit} {st : List Sit} {a b : Int} (hg : GRd σ x g) (hl : RdS sP σ lA ln l) (hst : RdS sS σ sA sn st) (hsc : sn ≤ sc) :
    FCalls Try.prog N_law04_GroundSites #[x.v g, .slice lA ln lc, .agg #[.slice sA sn sc, .int .i64 a, .int .i64 b]] σ fun v _ => v = .bool true := by
  refine M_law04_GroundSites_ok _ _ _ _ _ _ _ _ _ _ _ _ _ _ _ _ _ _ ?_
  unfold M_law04_GroundSites
  refine clB M_law04_Large_enter (c_Large hg.c.lenI hl.lenP) ?_
  refine bc_b (fun _ => clB M_law04_works_enter c_works (rt_of rfl)) (fun _ => ?_)
  refine cl_of M_ground_Sites_enter (c_ground_Sites hg hl hst) ?_
  rintro v σ8 ⟨A9, l9, c9, rfl, o9⟩
  refine ⟨_, _, _, _, rfl, ?_⟩
  refine cl_of M_ref04_Sites_enter (c_ref04_Sites (hg.sub o9.sub) (hl.sub o9.sub) (hst.sub o9.sub) hsc) ?_
  rintro v σ13 ⟨A14, l14, c14, rfl, o14⟩
  refine ⟨_, _, _, _, rfl, bc_d (fun _ => ?_) (fun h => absurd rfl h)⟩
  refine clB M_law04_sameSites_enter (c_sameSites (o9.rd.sub o14.sub) o14.rd sitS_len) ?_
  refine bc_d (fun _ => clB M_law04_works_enter c_works (rt_of rfl)) (fun h => absurd rfl h)
set_option maxRecDepth 100000 in
theorem lifted_Sites (os : Os) (started : os.Started) (H : Type) (enc : TypeId × Value → H) :
    ReturnsInHanded {} Try.checked os N_law04_GroundSites .any (Rows.groundSitesSpec.pre6 enc Try.prog Try.f5 Rows.groundSitesRow.domain false) (Rows.groundSitesSpec.post enc Try.prog Try.f5 false true false false) := by
  refine returnsInHanded_of_change (C := Try.checked) Try.own started (by kernel_rfl) Try.func5
    (ChangeSpec.witness6 (enc := enc) (C := Try.checked) false ⟨#[], #[.agg #[.int .i64 0, .int .i64 0, .slice none 0 0, .slice none 0 0], .slice none 0 0, .agg #[.slice none 0 0, .int .i64 0, .int .i64 0]], []⟩ 8 (by kernel_rfl) (by kernel_rfl) (by kernel_rfl) (by kernel_rfl)) ?_
  intro W base args ds gs before hval0 hW _ _
  have hval : ∀ (j : Nat) t v, Try.f5.params[j]? = some t → args[j]? = some v → Value.okWide Try.prog W .any base t v := hval0
  have hW' := hW
  obtain ⟨p, q, hA0, hV, rfl, hfz, hnd⟩ := hW
  have hA : DataW.TrodAll enc Try.prog W 0 (fun _ => true) true Try.f5.params.toList args.toList ds p := hA0
  have hA1 := hA
  rw [Try.params5] at hA hval
  obtain ⟨v0, v1, v2, d0, d1, d2, p0, p1, p2, rfl, rfl, rfl, h0, h1, h2⟩ := trodAll_three hA
  obtain ⟨rfl, rfl⟩ := trodVars_none hV
  obtain ⟨x, g, rfl, hg⟩ := open_ground (hval 0 24 v0 rfl rfl) h0
  obtain ⟨lA, ln, lc, l, rfl, _, hl⟩ := open_pits (hval 1 25 v1 rfl rfl) h1
  obtain ⟨sA, sn, sc, st, a, b, rfl, hsc, hst⟩ := open_plan (hval 2 28 v2 rfl rfl) h2
  simp only [List.append_nil] at hW' hA1
  exact law_shut Try.laidOut (by kernel_rfl) rfl Try.underlying4 rfl rfl hW' hA1 (law_Sites hg hl hst hsc)
theorem groundSites_holds : Rows.GroundSitesSaid :=
  OpenClaim.holds_of_wide N_law04_GroundSites Try.f5 rfl rfl rfl rfl rfl rfl rfl ⟨rfl, rfl, rfl, rfl, rfl⟩ rfl rfl rfl rfl rfl (by kernel_rfl) Try.func5 (by kernel_rfl)
    (of_decide_eq_true (by kernel_rfl)) (by unfold Func.isWrapper; rw [if_neg (of_decide_eq_false (by kernel_rfl))]; exact ⟨rfl, rfl⟩)
    (fun os started H enc _ => lifted_Sites os started H enc)
#print axioms groundSites_holds
end Go.Proofs.Ytmpkiaghkhhlhaa
