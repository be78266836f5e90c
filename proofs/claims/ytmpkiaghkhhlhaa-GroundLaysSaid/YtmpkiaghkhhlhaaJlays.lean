/- For all inputs the law GroundLays returns true, and what came in reads as it did. -/
import Derived.Test.YtmpkiaghkhhlhaaB14
import Derived.Test.YtmpkiaghkhhlhaaB17
import Derived.Test.YtmpkiaghkhhlhaaL7
namespace Go.Proofs.Ytmpkiaghkhhlhaa
open Go.RowKit Go.ChangeShapes Go.WideShapes Go.Deep Go.Joins

theorem layE_len {g : Gnd} {l : List Pit} : (layE g l).1.length ≤ 4294967296 := by
  unfold layE
  split
  · simp
  · rename_i h
    have h8 := (chkP_ok (Classical.not_not.1 h)).2.1
    cases e : layS g l l.length [] with
    | none => simp
    | some out =>
      have := layS_len _ _ _ e
      simp at this ⊢
      omega
theorem awE_len {g : Gnd} {l : List Pit} : (awE g l).1.length ≤ 4294967296 := by
  unfold awE
  split
  · simp
  · rename_i h
    have h0 := Classical.not_not.1 h
    have h8 := (chkP_ok h0).2.1
    have hA := awK_spec h0 l.length (Nat.le_refl _)
    have := hA.ok.st
    rw [hA.el] at this
    simp only
    omega
theorem law_Lays {σ : Hp} {x : GV} {g : Gnd} {lA : Option Addr} {ln lc : Nat} {l : List Pit} (hg : GRd σ x g) (hl : RdS sP σ lA ln l) :
    FCalls Try.prog N_law04_GroundLays #[x.v g, .slice lA ln lc] σ fun v _ => v = .bool true := by
  refine M_law04_GroundLays_ok _ _ _ _ _ _ _ _ _ _ _ _ _ ?_
  unfold M_law04_GroundLays
  refine cut_intro fun J3 h3 => ?_
  have k3 : J3 σ := by
    rw [h3]
    intro _
    refine cl_of M_ground_Lay_enter (c_ground_Lay hg hl) ?_
    rintro v σ5 ⟨A6, l6, c6, rfl, o6⟩
    refine ⟨_, _, _, _, rfl, ?_⟩
    refine cl_of M_ref04_Lay_enter (c_ref04_Lay (hg.sub o6.sub) (hl.sub o6.sub)) ?_
    rintro v σ9 ⟨hs9, A10, l10, c10, rfl, r10⟩
    refine ⟨_, _, _, _, rfl, ?_⟩
    have hs := o6.sub.trans hs9
    have hg := hg.sub hs
    have hl := hl.sub hs
    refine cut_intro fun J14 h14 => ?_
    have k14 : J14 σ9 := by
      rw [h14]
      intro _
      refine cl_of M_ground_Award_enter (c_ground_Award hg hl) ?_
      rintro v σ16 ⟨A17, l17, c17, rfl, o17⟩
      refine ⟨_, _, _, _, rfl, ?_⟩
      refine cl_of M_ref04_Award_enter (c_ref04_Award (hg.sub o17.sub) (hl.sub o17.sub)) ?_
      rintro v σ20 ⟨A21, l21, c21, rfl, o21⟩
      refine ⟨_, _, _, _, rfl, bc_d (fun _ => ?_) (fun h => absurd rfl h)⟩
      refine clB M_law04_sameSites_enter (c_sameSites (o17.rd.sub o21.sub) o21.rd awE_len) ?_
      exact bc_d (fun _ => clB M_law04_works_enter c_works (rt_of rfl)) (fun h => absurd rfl h)
    refine cut_intro fun J34 h34 => bc_nd (fun h => absurd rfl h) (fun _ => ?_)
    refine clB M_law04_sameSites_enter (c_sameSites (o6.rd.sub hs9) r10 layE_len) ?_
    rw [h34]
    intro _
    exact bc_nd (fun h => absurd rfl h) (fun _ => k14)
  refine cut_intro fun J41 h41 => ?_
  have k41 : ∀ t, J41 t σ := by
    intro t
    rw [h41]
    intro _
    exact bc_b (fun _ => clB M_law04_works_enter c_works (rt_of rfl)) (fun _ => k3)
  exact clB M_law04_Large_enter (c_Large hg.c.lenI hl.lenP) (bc_b (fun _ => k41 _) (fun _ => k41 _))
set_option maxRecDepth 100000 in
theorem lifted_Lays (os : Os) (started : os.Started) (H : Type) (enc : TypeId × Value → H) :
    ReturnsInHanded {} Try.checked os N_law04_GroundLays .any (Rows.groundLaysSpec.pre6 enc Try.prog Try.f7 Rows.groundLaysRow.domain false) (Rows.groundLaysSpec.post enc Try.prog Try.f7 false true false false) := by
  refine returnsInHanded_of_change (C := Try.checked) Try.own started (by kernel_rfl) Try.func7
    (ChangeSpec.witness6 (enc := enc) (C := Try.checked) false ⟨#[], #[.agg #[.int .i64 0, .int .i64 0, .slice none 0 0, .slice none 0 0], .slice none 0 0], []⟩ 8 (by kernel_rfl) (by kernel_rfl) (by kernel_rfl) (by kernel_rfl)) ?_
  intro W base args ds gs before hval0 hW _ _
  have hval : ∀ (j : Nat) t v, Try.f7.params[j]? = some t → args[j]? = some v → Value.okWide Try.prog W .any base t v := hval0
  have hW' := hW
  obtain ⟨p, q, hA0, hV, rfl, hfz, hnd⟩ := hW
  have hA : DataW.TrodAll enc Try.prog W 0 (fun _ => true) true Try.f7.params.toList args.toList ds p := hA0
  have hA1 := hA
  rw [Try.params7] at hA hval
  obtain ⟨v0, v1, d0, d1, p0, p1, rfl, rfl, rfl, h0, h1⟩ := trodAll_two hA
  obtain ⟨rfl, rfl⟩ := trodVars_none hV
  obtain ⟨x, g, rfl, hg⟩ := open_ground (hval 0 24 v0 rfl rfl) h0
  obtain ⟨lA, ln, lc, l, rfl, _, hl⟩ := open_pits (hval 1 25 v1 rfl rfl) h1
  simp only [List.append_nil] at hW' hA1
  exact law_shut Try.laidOut (by kernel_rfl) rfl Try.underlying4 rfl rfl hW' hA1 (law_Lays hg hl)
theorem groundLays_holds : Rows.GroundLaysSaid :=
  OpenClaim.holds_of_wide N_law04_GroundLays Try.f7 rfl rfl rfl rfl rfl rfl rfl ⟨rfl, rfl, rfl, rfl, rfl⟩ rfl rfl rfl rfl rfl (by kernel_rfl) Try.func7 (by kernel_rfl)
    (of_decide_eq_true (by kernel_rfl)) (by unfold Func.isWrapper; rw [if_neg (of_decide_eq_false (by kernel_rfl))]; exact ⟨rfl, rfl⟩)
    (fun os started H enc _ => lifted_Lays os started H enc)
#print axioms groundLays_holds
end Go.Proofs.Ytmpkiaghkhhlhaa
