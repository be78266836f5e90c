/- For all inputs the law GroundLeaves returns true, and what came in reads as it did. -/
import Derived.Test.YtmpkiaghkhhlhaaB20
import Derived.Test.YtmpkiaghkhhlhaaL12
namespace Go.Proofs.Ytmpkiaghkhhlhaa
open Go.RowKit Go.ChangeShapes Go.WideShapes Go.Deep Go.Joins

theorem lvE_len {g : Gnd} {l : List Pit} {st : List Sit} {ps : List Int} {m : Int} : (lvE g l st ps m).1.length ≤ 4294967296 := by
  unfold lvE
  split
  · simp
  · split
    · simp
    · rename_i h
      split
      · simp
      · have := lvL_len (g := g) (X := farS g (gb (g.opn l st))) m.toNat ps
        simp only
        omega
theorem law_Leaves {σ : Hp} {x : GV} {g : Gnd} {lA sA pA : Option Addr} {ln lc sn sc pn pc : Nat} {l : List Pit} {st : List Sit} {ps : List Int} {m : Int} (hg : GRd σ x g) (hl : RdS sP σ lA ln l) (hst : RdS sS σ sA sn st) (hsc : sn ≤ sc) (hps : RdS [.int .i64] σ pA pn ps) :
    FCalls Try.prog N_law04_GroundLeaves #[x.v g, .slice lA ln lc, .agg #[.slice sA sn sc, .slice pA pn pc, .int .i64 m]] σ fun v _ => v = .bool true := by
  refine M_law04_GroundLeaves_ok _ _ _ _ _ _ _ _ _ _ _ _ _ _ _ _ _ _ _ _ ?_
  unfold M_law04_GroundLeaves
  refine clB M_law04_Large_enter (c_Large hg.c.lenI hl.lenP) ?_
  refine bc_d (fun _ => clB M_law04_works_enter c_works (rt_of rfl)) (fun hlg => ?_)
  refine cl_of M_ground_Leave_enter (c_ground_Leave hg hl hst hps (by omega)) ?_
  rintro v σ8 ⟨A9, l9, c9, rfl, o9⟩
  refine ⟨_, _, _, _, rfl, ?_⟩
  refine cl_of M_ref04_Leave_enter (c_ref04_Leave (hg.sub o9.sub) (hl.sub o9.sub) (hst.sub o9.sub) hsc (hps.sub o9.sub)) ?_
  rintro v σ13 ⟨A14, l14, c14, rfl, o14⟩
  refine ⟨_, _, _, _, rfl, bc_d (fun _ => ?_) (fun h => absurd rfl h)⟩
  refine clB M_law04_sameInts_enter (c_sameInts (o9.rd.sub o14.sub) o14.rd lvE_len) ?_
  exact bc_d (fun _ => clB M_law04_works_enter c_works (rt_of rfl)) (fun h => absurd rfl h)
set_option maxRecDepth 100000 in
theorem lifted_Leaves (os : Os) (started : os.Started) (H : Type) (enc : TypeId × Value → H) :
    ReturnsInHanded {} Try.checked os N_law04_GroundLeaves .any (Rows.groundLeavesSpec.pre6 enc Try.prog Try.f12 Rows.groundLeavesRow.domain false) (Rows.groundLeavesSpec.post enc Try.prog Try.f12 false true false false) := by
  refine returnsInHanded_of_change (C := Try.checked) Try.own started (by kernel_rfl) Try.func12
    (ChangeSpec.witness6 (enc := enc) (C := Try.checked) false ⟨#[], #[.agg #[.int .i64 0, .int .i64 0, .slice none 0 0, .slice none 0 0], .slice none 0 0, .agg #[.slice none 0 0, .slice none 0 0, .int .i64 0]], []⟩ 8 (by kernel_rfl) (by kernel_rfl) (by kernel_rfl) (by kernel_rfl)) ?_
  intro W base args ds gs before hval0 hW _ _
  have hval : ∀ (j : Nat) t v, Try.f12.params[j]? = some t → args[j]? = some v → Value.okWide Try.prog W .any base t v := hval0
  have hW' := hW
  obtain ⟨p, q, hA0, hV, rfl, hfz, hnd⟩ := hW
  have hA : DataW.TrodAll enc Try.prog W 0 (fun _ => true) true Try.f12.params.toList args.toList ds p := hA0
  have hA1 := hA
  rw [Try.params12] at hA hval
  obtain ⟨v0, v1, v2, d0, d1, d2, p0, p1, p2, rfl, rfl, rfl, h0, h1, h2⟩ := trodAll_three hA
  obtain ⟨rfl, rfl⟩ := trodVars_none hV
  obtain ⟨x, g, rfl, hg⟩ := open_ground (hval 0 24 v0 rfl rfl) h0
  obtain ⟨lA, ln, lc, l, rfl, _, hl⟩ := open_pits (hval 1 25 v1 rfl rfl) h1
  obtain ⟨sA, sn, sc, st, pA, pn, pc, ps, m, rfl, hsc, hst, hps⟩ := open_crowd (hval 2 62 v2 rfl rfl) h2
  simp only [List.append_nil] at hW' hA1
  exact law_shut Try.laidOut (by kernel_rfl) rfl Try.underlying4 rfl rfl hW' hA1 (law_Leaves hg hl hst hsc hps)
theorem groundLeaves_holds : Rows.GroundLeavesSaid :=
  OpenClaim.holds_of_wide N_law04_GroundLeaves Try.f12 rfl rfl rfl rfl rfl rfl rfl ⟨rfl, rfl, rfl, rfl, rfl⟩ rfl rfl rfl rfl rfl (by kernel_rfl) Try.func12 (by kernel_rfl)
    (of_decide_eq_true (by kernel_rfl)) (by unfold Func.isWrapper; rw [if_neg (of_decide_eq_false (by kernel_rfl))]; exact ⟨rfl, rfl⟩)
    (fun os started H enc _ => lifted_Leaves os started H enc)
#print axioms groundLeaves_holds
end Go.Proofs.Ytmpkiaghkhhlhaa
