/- For all inputs the law GroundTraps returns true, and what came in reads as it did. -/
import Derived.Test.YtmpkiaghkhhlhaaB14
import Derived.Test.YtmpkiaghkhhlhaaB16
import Derived.Test.YtmpkiaghkhhlhaaL11
namespace Go.Proofs.Ytmpkiaghkhhlhaa
open Go.RowKit Go.ChangeShapes Go.WideShapes Go.Deep Go.Joins

theorem trpE_len {g : Gnd} {l : List Pit} {st : List Sit} {b : Int} : (trpE g l st b).1.length ≤ 4294967296 := by
  unfold trpE
  split
  · simp
  · split
    · simp
    · rename_i h _
      have hG := (chkS_ok (Classical.not_not.1 h)).2.1
      have := (Gnd.okS_len hG.s).2.1
      have h2 := nums_len (p := trp g (gb (g.opn l st)) b) (k := g.C.length)
      simp only
      omega
theorem lanE_len {g : Gnd} {l : List Pit} {st : List Sit} {b : Int} : (lanE g l st b).1.length ≤ 4294967296 := by
  unfold lanE
  split
  · simp
  · split
    · simp
    · rename_i h _
      have hG := (chkS_ok (Classical.not_not.1 h)).2.1
      have := hG.len
      have h2 := nums_len (p := lanP g l st (farS g (gb (g.opn l st))) b) (k := l.length)
      simp only
      omega
theorem SafR.same {g : Gnd} {l : List Pit} {st : List Sit} {v w : Value} (h : SafR g l st v) (h' : SafR g l st w) : ∃ c b t e, v = .tuple #[.int .i64 c, .int .i64 b, .bool t, .int .i64 e] ∧ w = .tuple #[.int .i64 c, .int .i64 b, .bool t, .int .i64 e] := by
  rcases h with ⟨h1, rfl⟩ | ⟨h1, c, b, hs, rfl⟩ <;> rcases h' with ⟨h1', rfl⟩ | ⟨h1', c', b', hs', rfl⟩
  · exact ⟨_, _, _, _, rfl, rfl⟩
  · exact absurd h1' h1
  · exact absurd h1 h1'
  · obtain ⟨rfl, rfl⟩ := hs.uniq hs'
    exact ⟨_, _, _, _, rfl, rfl⟩
theorem law_Traps {σ : Hp} {x : GV} {g : Gnd} {lA sA : Option Addr} {ln lc sn sc : Nat} {l : List Pit} {st : List Sit} {a b : Int} (hg : GRd σ x g) (hl : RdS sP σ lA ln l) (hst : RdS sS σ sA sn st) (hsc : sn ≤ sc) :
    FCalls Try.prog N_law04_GroundTraps #[x.v g, .slice lA ln lc, .agg #[.slice sA sn sc, .int .i64 a, .int .i64 b]] σ fun v _ => v = .bool true := by
  refine M_law04_GroundTraps_ok _ _ _ _ _ _ _ _ _ _ _ _ _ _ _ _ _ _ ?_
  unfold M_law04_GroundTraps
  refine clB M_law04_Large_enter (c_Large hg.c.lenI hl.lenP) ?_
  refine bc_b (fun _ => clB M_law04_works_enter c_works (rt_of rfl)) (fun _ => ?_)
  refine cl_of M_ground_Trapped_enter (c_ground_Trapped hg hl hst) ?_
  rintro v σ8 ⟨A9, l9, c9, rfl, o9⟩
  refine ⟨_, _, _, _, rfl, ?_⟩
  refine cl_of M_ref04_Trapped_enter (c_ref04_Trapped (hg.sub o9.sub) (hl.sub o9.sub) (hst.sub o9.sub) hsc) ?_
  rintro v σ12 ⟨A13, l13, c13, rfl, o13⟩
  refine ⟨_, _, _, _, rfl, ?_⟩
  have hs := o9.sub.trans o13.sub
  have hg := hg.sub hs
  have hl := hl.sub hs
  have hst := hst.sub hs
  refine cut_intro fun J17 h17 => ?_
  have k17 : J17 σ12 := by
    rw [h17]
    intro _
    refine cl_of M_ground_Safe_enter (c_ground_Safe hg hl hst) ?_
    rintro v σ19 ⟨hv, rfl⟩
    have hsame := fun w (hw : SafR g l st w) => hv.same hw
    obtain ⟨c, b', t, e, rfl, _⟩ := hv.same hv
    refine ⟨_, _, _, _, rfl, ?_⟩
    refine cl_of M_ref04_Safe_enter (c_ref04_Safe hg hl hst hsc) ?_
    rintro w σ25 ⟨hw, rfl⟩
    obtain ⟨c2, b2, t2, e2, h1, rfl⟩ := hsame w hw
    cases h1
    refine ⟨_, _, _, _, rfl, ?_⟩
    refine cut_intro fun J32 h32 => ?_
    have k32 : J32 σ25 := by
      rw [h32]
      intro _
      refine cl_of M_ground_Lanes_enter (c_ground_Lanes hg hl hst) ?_
      rintro v σ34 ⟨A35, l35, c35, rfl, o35⟩
      refine ⟨_, _, _, _, rfl, ?_⟩
      refine cl_of M_ref04_Lanes_enter (c_ref04_Lanes (hg.sub o35.sub) (hl.sub o35.sub) (hst.sub o35.sub) hsc) ?_
      rintro v σ38 ⟨A39, l39, c39, rfl, o39⟩
      refine ⟨_, _, _, _, rfl, bc_d (fun _ => ?_) (fun h => absurd rfl h)⟩
      refine clB M_law04_sameInts_enter (c_sameInts (o35.rd.sub o39.sub) o39.rd lanE_len) ?_
      exact bc_d (fun _ => clB M_law04_works_enter c_works (rt_of rfl)) (fun h => absurd rfl h)
    refine cut_intro fun J52 h52 => bc_nd (fun h => absurd rfl h) (fun _ => bc_nd (fun h => absurd rfl h) (fun _ => ?_))
    have k52 : ∀ t, t = false → J52 t σ25 := by
      rintro t rfl
      rw [h52]
      intro _
      exact bc_f k32
    rw [show (!(t == t)) = false by cases t <;> rfl]
    exact bc_f (k52 _ (by simp))
  refine cut_intro fun J56 h56 => bc_nd (fun h => absurd rfl h) (fun _ => ?_)
  refine clB M_law04_sameInts_enter (c_sameInts (o9.rd.sub o13.sub) o13.rd trpE_len) ?_
  rw [h56]
  intro _
  exact bc_nd (fun h => absurd rfl h) (fun _ => k17)
set_option maxRecDepth 100000 in
theorem lifted_Traps (os : Os) (started : os.Started) (H : Type) (enc : TypeId × Value → H) :
    ReturnsInHanded {} Try.checked os N_law04_GroundTraps .any (Rows.groundTrapsSpec.pre6 enc Try.prog Try.f11 Rows.groundTrapsRow.domain false) (Rows.groundTrapsSpec.post enc Try.prog Try.f11 false true false false) := by
  refine returnsInHanded_of_change (C := Try.checked) Try.own started (by kernel_rfl) Try.func11
    (ChangeSpec.witness6 (enc := enc) (C := Try.checked) false ⟨#[], #[.agg #[.int .i64 0, .int .i64 0, .slice none 0 0, .slice none 0 0], .slice none 0 0, .agg #[.slice none 0 0, .int .i64 0, .int .i64 0]], []⟩ 8 (by kernel_rfl) (by kernel_rfl) (by kernel_rfl) (by kernel_rfl)) ?_
  intro W base args ds gs before hval0 hW _ _
  have hval : ∀ (j : Nat) t v, Try.f11.params[j]? = some t → args[j]? = some v → Value.okWide Try.prog W .any base t v := hval0
  have hW' := hW
  obtain ⟨p, q, hA0, hV, rfl, hfz, hnd⟩ := hW
  have hA : DataW.TrodAll enc Try.prog W 0 (fun _ => true) true Try.f11.params.toList args.toList ds p := hA0
  have hA1 := hA
  rw [Try.params11] at hA hval
  obtain ⟨v0, v1, v2, d0, d1, d2, p0, p1, p2, rfl, rfl, rfl, h0, h1, h2⟩ := trodAll_three hA
  obtain ⟨rfl, rfl⟩ := trodVars_none hV
  obtain ⟨x, g, rfl, hg⟩ := open_ground (hval 0 24 v0 rfl rfl) h0
  obtain ⟨lA, ln, lc, l, rfl, _, hl⟩ := open_pits (hval 1 25 v1 rfl rfl) h1
  obtain ⟨sA, sn, sc, st, a, b, rfl, hsc, hst⟩ := open_plan (hval 2 28 v2 rfl rfl) h2
  simp only [List.append_nil] at hW' hA1
  exact law_shut Try.laidOut (by kernel_rfl) rfl Try.underlying4 rfl rfl hW' hA1 (law_Traps hg hl hst hsc)
theorem groundTraps_holds : Rows.GroundTrapsSaid :=
  OpenClaim.holds_of_wide N_law04_GroundTraps Try.f11 rfl rfl rfl rfl rfl rfl rfl ⟨rfl, rfl, rfl, rfl, rfl⟩ rfl rfl rfl rfl rfl (by kernel_rfl) Try.func11 (by kernel_rfl)
    (of_decide_eq_true (by kernel_rfl)) (by unfold Func.isWrapper; rw [if_neg (of_decide_eq_false (by kernel_rfl))]; exact ⟨rfl, rfl⟩)
    (fun os started H enc _ => lifted_Traps os started H enc)
#print axioms groundTraps_holds
end Go.Proofs.Ytmpkiaghkhhlhaa
