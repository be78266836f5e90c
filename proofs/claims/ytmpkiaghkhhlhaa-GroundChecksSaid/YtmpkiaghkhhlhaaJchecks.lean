/- For all inputs the law GroundChecks returns true, and what came in reads as it did. -/
import Derived.Test.YtmpkiaghkhhlhaaB14
import Derived.Test.YtmpkiaghkhhlhaaB15
import Derived.Test.YtmpkiaghkhhlhaaL9
namespace Go.Proofs.Ytmpkiaghkhhlhaa
open Go.RowKit Go.ChangeShapes Go.WideShapes Go.Deep Go.Joins

theorem freeS_len {g : Gnd} {l : List Pit} {st : List Sit} : (freeS g l st).1.length ≤ 4294967296 := by
  unfold freeS
  split
  · simp
  · rename_i h
    have hG := (chkS_ok (Classical.not_not.1 h)).2.1
    have := (Gnd.okS_len hG.s).2.1
    have h2 := nums_len (p := gb (g.opn l st)) (k := g.C.length)
    simp only
    omega
theorem farE_len {g : Gnd} {l : List Pit} {st : List Sit} : (farE g l st).1.length ≤ 4294967296 := by
  unfold farE
  split
  · simp
  · rename_i h
    have hG := (chkS_ok (Classical.not_not.1 h)).2.1
    have := (Gnd.okS_len hG.s).2.1
    simp only [farS_len]
    omega
theorem law_Checks {σ : Hp} {x : GV} {g : Gnd} {lA sA : Option Addr} {ln lc sn sc : Nat} {l : List Pit} {st : List Sit} (hg : GRd σ x g) (hl : RdS sP σ lA ln l) (hst : RdS sS σ sA sn st) (hsc : sn ≤ sc) :
    FCalls Try.prog N_law04_GroundChecks #[x.v g, .slice lA ln lc, .slice sA sn sc] σ fun v _ => v = .bool true := by
  refine M_law04_GroundChecks_ok _ _ _ _ _ _ _ _ _ _ _ _ _ _ _ _ ?_
  unfold M_law04_GroundChecks
  refine clB M_law04_Large_enter (c_Large hg.c.lenI hl.lenP) ?_
  refine bc_b (fun _ => clB M_law04_works_enter c_works (rt_of rfl)) (fun _ => ?_)
  refine clII M_ground_Check_enter (c_ground_Check hg hl hst) ?_
  refine clII M_ref04_Check_enter (c_ref04_Check hg hl hst hsc) ?_
  refine cut_intro fun J17 h17 => ?_
  have k17 : J17 σ := by
    rw [h17]
    intro _
    refine cl_of M_ground_Free_enter (c_ground_Free hg hl hst) ?_
    rintro v σ19 ⟨A20, l20, c20, rfl, o20⟩
    refine ⟨_, _, _, _, rfl, ?_⟩
    refine cl_of M_ref04_Free_enter (c_ref04_Free (hg.sub o20.sub) (hl.sub o20.sub) (hst.sub o20.sub) hsc) ?_
    rintro v σ23 ⟨A24, l24, c24, rfl, o24⟩
    refine ⟨_, _, _, _, rfl, ?_⟩
    have hs := o20.sub.trans o24.sub
    have hg := hg.sub hs
    have hl := hl.sub hs
    have hst := hst.sub hs
    refine cut_intro fun J28 h28 => ?_
    have k28 : J28 σ23 := by
      rw [h28]
      intro _
      refine cl_of M_ground_Far_enter (c_ground_Far hg hl hst) ?_
      rintro v σ30 ⟨A31, l31, c31, rfl, o31⟩
      refine ⟨_, _, _, _, rfl, ?_⟩
      refine cl_of M_ref04_Far_enter (c_ref04_Far (hg.sub o31.sub) (hl.sub o31.sub) (hst.sub o31.sub) hsc) ?_
      rintro v σ34 ⟨A35, l35, c35, rfl, o35⟩
      refine ⟨_, _, _, _, rfl, bc_d (fun _ => ?_) (fun h => absurd rfl h)⟩
      refine clB M_law04_sameInts_enter (c_sameInts (o31.rd.sub o35.sub) o35.rd farE_len) ?_
      exact bc_d (fun _ => clB M_law04_works_enter c_works (rt_of rfl)) (fun h => absurd rfl h)
    refine cut_intro fun J48 h48 => bc_nd (fun h => absurd rfl h) (fun _ => ?_)
    refine clB M_law04_sameInts_enter (c_sameInts (o20.rd.sub o24.sub) o24.rd freeS_len) ?_
    rw [h48]
    intro _
    exact bc_nd (fun h => absurd rfl h) (fun _ => k28)
  refine cut_intro fun J55 h55 => bc_nd (fun h => absurd rfl h) (fun _ => ?_)
  rw [h55]
  intro _
  exact bc_nd (fun h => absurd rfl h) (fun _ => k17)
set_option maxRecDepth 100000 in
theorem lifted_Checks (os : Os) (started : os.Started) (H : Type) (enc : TypeId × Value → H) :
    ReturnsInHanded {} Try.checked os N_law04_GroundChecks .any (Rows.groundChecksSpec.pre6 enc Try.prog Try.f9 Rows.groundChecksRow.domain false) (Rows.groundChecksSpec.post enc Try.prog Try.f9 false true false false) := by
  refine returnsInHanded_of_change (C := Try.checked) Try.own started (by kernel_rfl) Try.func9
    (ChangeSpec.witness6 (enc := enc) (C := Try.checked) false ⟨#[], #[.agg #[.int .i64 0, .int .i64 0, .slice none 0 0, .slice none 0 0], .slice none 0 0, .slice none 0 0], []⟩ 8 (by kernel_rfl) (by kernel_rfl) (by kernel_rfl) (by kernel_rfl)) ?_
  intro W base args ds gs before hval0 hW _ _
  have hval : ∀ (j : Nat) t v, Try.f9.params[j]? = some t → args[j]? = some v → Value.okWide Try.prog W .any base t v := hval0
  have hW' := hW
  obtain ⟨p, q, hA0, hV, rfl, hfz, hnd⟩ := hW
  have hA : DataW.TrodAll enc Try.prog W 0 (fun _ => true) true Try.f9.params.toList args.toList ds p := hA0
  have hA1 := hA
  rw [Try.params9] at hA hval
  obtain ⟨v0, v1, v2, d0, d1, d2, p0, p1, p2, rfl, rfl, rfl, h0, h1, h2⟩ := trodAll_three hA
  obtain ⟨rfl, rfl⟩ := trodVars_none hV
  obtain ⟨x, g, rfl, hg⟩ := open_ground (hval 0 24 v0 rfl rfl) h0
  obtain ⟨lA, ln, lc, l, rfl, _, hl⟩ := open_pits (hval 1 25 v1 rfl rfl) h1
  obtain ⟨sA, sn, sc, st, rfl, hsc, hst⟩ := open_sits (hval 2 26 v2 rfl rfl) h2
  simp only [List.append_nil] at hW' hA1
  exact law_shut Try.laidOut (by kernel_rfl) rfl Try.underlying4 rfl rfl hW' hA1 (law_Checks hg hl hst hsc)
theorem groundChecks_holds : Rows.GroundChecksSaid :=
  OpenClaim.holds_of_wide N_law04_GroundChecks Try.f9 rfl rfl rfl rfl rfl rfl rfl ⟨rfl, rfl, rfl, rfl, rfl⟩ rfl rfl rfl rfl rfl (by kernel_rfl) Try.func9 (by kernel_rfl)
    (of_decide_eq_true (by kernel_rfl)) (by unfold Func.isWrapper; rw [if_neg (of_decide_eq_false (by kernel_rfl))]; exact ⟨rfl, rfl⟩)
    (fun os started H enc _ => lifted_Checks os started H enc)
#print axioms groundChecks_holds
end Go.Proofs.Ytmpkiaghkhhlhaa
