/- For all inputs the law GroundRights returns true, and what came in reads as it did. -/
import Derived.Test.YtmpkiaghkhhlhaaB14
import Derived.Test.YtmpkiaghkhhlhaaB18
import Derived.Test.YtmpkiaghkhhlhaaL6
namespace Go.Proofs.Ytmpkiaghkhhlhaa
open Go.RowKit Go.ChangeShapes Go.WideShapes Go.Deep Go.Joins

theorem rep_app {k : Nat} {a : Sit} : List.replicate k a ++ [a] = List.replicate (k + 1) a := by
  rw [List.replicate_succ']
theorem nowhere_chk {g : Gnd} {l : List Pit} (h : (chkP g l).2 = 0) : chkS g l (List.replicate l.length (-1, false)) = (0, 0) :=
  chkS_of h (by simp) fun k hk => by
    unfold Gnd.siteOK
    rw [sit_rep, if_pos hk]
    simp
set_option maxRecDepth 4000 in
theorem law_Rights {σ : Hp} {x : GV} {g : Gnd} {lA : Option Addr} {ln lc : Nat} {l : List Pit} (hg : GRd σ x g) (hl : RdS sP σ lA ln l) :
    FCalls Try.prog N_law04_GroundRights #[x.v g, .slice lA ln lc] σ fun v _ => v = .bool true := by
  refine M_law04_GroundRights_ok _ _ _ _ _ _ _ _ _ _ _ _ _ ?_
  unfold M_law04_GroundRights
  have hln := hl.lenP
  refine cut_intro fun J3 h3 => ?_
  have k3 : J3 σ := by
    rw [h3]
    intro _
    refine cl_of M_ground_Award_enter (c_ground_Award hg hl) ?_
    rintro v σ5 ⟨A6, l6, c6, rfl, o6⟩
    refine ⟨_, _, _, _, rfl, ?_⟩
    have hs5 := o6.sub
    refine cut_intro fun J10 h10 => cut_intro fun J114 h114 => ?_
    have k10 : (awE g l).2 = 0 → l.length ≠ 0 → J10 σ5 := by
      intro he hl0
      have hch : (chkP g l).2 = 0 := by
        apply Classical.byContradiction
        intro hc
        rw [awE, if_pos hc] at he
        exact hc he
      obtain ⟨q1, h8, q3, _⟩ := chkP_ok hch
      have hG : Good g l := ⟨q1, q3, h8⟩
      have ee : awE g l = ((awK g l l.length).st, 0) := by rw [awE, if_neg (by simp [hch])]
      rw [ee] at o6
      have h6 : l6 = l.length := by rw [← awK_len hch (Nat.le_refl _)]; exact o6.len
      rw [h10]
      intro _
      refine bc_nd (fun hne => by omega) (fun _ => ?_)
      have hfin := awK_len hch (Nat.le_refl l.length)
      have hchk := aw_chk hch
      have hnone := fun (i : Nat) (hi : i < l.length) => aw_none hch hi
      have hfirst := aw_first hch (by omega) rfl
      have hgiv : RdS sS σ5 A6 l6 (awK g l l.length).st := o6.rd
      have hord := order_min (l := l) (k := 0) (by rw [(order_spec l).2.1]; omega)
      have e0 : (((0 : Nat) : Int)) = 0 := rfl
      rw [e0] at hord
      have hpr := ord_at (l := l) (k := 0) (by omega)
      rw [e0] at hpr
      generalize (awK g l l.length).st = fin at *
      generalize gt (order l) 0 = p at *
      refine cut_intro fun J13 h13 => ?_
      have k13 : J13 p (List.replicate l.length (-1, false)) σ5 := by
        rw [h13]
        intro _
        intro A16 l16 c16 σ17 o16
        have hs17 := hs5.trans o16.sub
        refine cl_of M_ground_Sites_enter (c_ground_Sites (hg.sub hs17) (hl.sub hs17) o16.rd) ?_
        have es : sitS g l (List.replicate l.length (-1, false)) p = (plc g (pt l p) (g.takS l (List.replicate l.length (-1, false)) p l.length) (2 * g.C.length), 0) := by
          rw [sitS, if_neg (by rw [nowhere_chk hch]; simp), if_neg (by omega)]
        rw [es]
        rintro v σ19 ⟨A20, l20, c20, rfl, o20⟩
        refine ⟨_, _, _, _, rfl, bc_nd (fun h => absurd rfl h) (fun _ => ?_)⟩
        have hs19 := hs17.trans o20.sub
        have hrd : RdS sS σ19 A20 l20 (plc g (pt l p) (g.takS l (List.replicate l.length (-1, false)) p l.length) (2 * g.C.length)) := o20.rd
        have hPl := plc_len (g := g) (p := pt l p) (full := g.takS l (List.replicate l.length (-1, false)) p l.length) (k := 2 * g.C.length)
        have hgiv := hgiv.sub (o16.sub.trans o20.sub)
        have hg := hg.sub hs19
        have hl := hl.sub hs19
        obtain ⟨l1, l2, l3⟩ := Gnd.okS_len hG.s
        generalize plc g (pt l p) (g.takS l (List.replicate l.length (-1, false)) p l.length) (2 * g.C.length) = P at *
        have hl20 := hrd.lenS
        refine cut_intro fun J24 h24 => ?_
        have k24 : ∀ t, t = (P.any fun s => decide (s.1 = (pt l p).2.2.2.2)) → J24 t σ19 := by
          rintro t rfl
          rw [h24]
          intro _
          refine cut_intro fun J28 h28 => ?_
          have k28 : J28 σ19 := by
            rw [h28]
            intro _
            refine cut_intro fun J31 h31 => ?_
            refine ⟨fun m i τ => ∃ k : Nat, m = l.length - k ∧ i = k ∧ k ≤ l.length ∧ Hp.Sub σ19 τ, ⟨_, 0, rfl, rfl, by omega, Hp.Sub.refl _⟩, ?_⟩
            rintro m i τ ⟨k, rfl, rfl, hk, hs⟩ _
            refine bc_d (fun hlt => ?_) (fun hlt => ?_)
            · have hkl : k < l.length := by omega
              refine cut_intro fun J42 h42 => ?_
              have k42 : ∀ τ', Hp.Sub τ τ' → J42 τ' := by
                intro τ' h
                rw [h42]
                intro _
                exact wk_i (by omega) (bk_of _ (by omega) ⟨k + 1, rfl, rfl, by omega, hs.trans h⟩)
              refine cl_of M_ground_Sites_enter (c_ground_Sites (a := (k : Int)) (hg.sub hs) (hl.sub hs) (hgiv.sub hs)) ?_
              have es : sitS g l fin k = (plc g (pt l k) (g.takS l fin k l.length) (2 * g.C.length), 0) := by
                rw [sitS, if_neg (by rw [hchk]; simp), if_neg (by omega)]
              rw [es]
              rintro v σ47 ⟨A48, l48, c48, rfl, o48⟩
              refine ⟨_, _, _, _, rfl, cut_intro fun J52 h52 => bc_nd (fun h => absurd rfl h) (fun _ => ?_)⟩
              have k52 : J52 false σ47 := by
                rw [h52]
                intro _
                exact bc_f (k42 _ o48.sub)
              refine six0 ((hgiv.sub hs).sub o48.sub) (by omega) (by omega) (bc_d (fun hneg => ?_) (fun _ => k52))
              have hl48 : l48 = (plc g (pt l k) (g.takS l fin k l.length) (2 * g.C.length)).length := o48.len
              rw [hnone k hkl hneg] at hl48
              have : l48 = 0 := hl48
              rw [decide_eq_false (by omega)]
              exact k52
            · rw [h31]
              intro _
              exact clB M_law04_works_enter c_works (rt_of rfl)
          refine cut_intro fun J59 h59 => ?_
          have k59 : ∀ t, t = false → J59 t σ19 := by
            rintro t rfl
            rw [h59]
            intro _
            exact bc_f k28
          refine pix4 hl hpr.1 hpr.2 (bc_d (fun hw => six0 hgiv hpr.1 (by omega) (pix4 hl hpr.1 hpr.2 (k59 _ ?_))) (fun hw => k59 _ ?_))
          · rw [hfirst]
            by_cases e : (sit fin p).1 = (pt l p).2.2.2.2
            · rw [decide_eq_true e, decide_eq_true ⟨hw, e⟩]; rfl
            · rw [decide_eq_false e, decide_eq_false (fun q => e q.2)]; rfl
          · rw [hfirst, decide_eq_false (fun q => hw q.1)]
            rfl
        refine ⟨fun m t i τ => ∃ k : Nat, m = P.length - k ∧ i = k ∧ k ≤ P.length ∧ τ = σ19 ∧ t = ((P.take k).any fun s => decide (s.1 = (pt l p).2.2.2.2)), ⟨_, 0, rfl, rfl, by omega, rfl, rfl⟩, ?_⟩
        rintro m t i τ ⟨k, rfl, rfl, hk, rfl, rfl⟩ _
        refine bc_d (fun hlt => ?_) (fun hlt => ?_)
        · have hkP : k < P.length := by omega
          have et : (P.take (k + 1)).any (fun s => decide (s.1 = (pt l p).2.2.2.2)) = ((P.take k).any (fun s => decide (s.1 = (pt l p).2.2.2.2)) || decide ((sit P k).1 = (pt l p).2.2.2.2)) := by
            rw [List.take_succ_eq_append_getElem hkP, List.any_append, sit_nat hkP]
            simp
          refine cut_intro fun J78 h78 => ?_
          have k78 : ∀ t, t = ((P.take (k + 1)).any fun s => decide (s.1 = (pt l p).2.2.2.2)) → J78 t τ := by
            rintro t rfl
            rw [h78]
            intro _
            exact wk_i (by omega) (bk_of _ (by omega) ⟨k + 1, rfl, rfl, by omega, rfl, rfl⟩)
          rw [et] at k78
          refine bc_b (fun ht => k78 _ ?_) (fun ht => six0 hrd (by omega) (by omega) (pix4 hl hpr.1 hpr.2 (k78 _ ?_)))
          · rw [ht]; rfl
          · rw [ht]; rfl
        · have : k = P.length := by omega
          subst this
          rw [List.take_length]
          exact k24 _ rfl
      refine ⟨fun m q xs i τ => ∃ k : Nat, m = l.length - k ∧ i = k ∧ k ≤ l.length ∧ xs = List.replicate k (-1, false) ∧ τ = σ5 ∧ (0 ≤ q ∧ (q < k ∨ q = 0)) ∧ ∀ j : Int, 0 ≤ j → j < k → j = q ∨ slt (yk l) q j, ⟨l.length, adp_nil.2 ⟨0, by omega, rfl, by omega, rfl, rfl, by omega, fun j h0 h1 => by omega⟩⟩, ?_⟩
      rintro m q xs i τ ⟨k, rfl, rfl, hk, rfl, rfl, hq, hmin⟩ _
      refine bc_d (fun hlt => ?_) (fun hlt => ?_)
      · have hkl : k < l.length := by omega
        refine cut_intro fun J100 h100 => ?_
        have k100 : ∀ q' : Int, (0 ≤ q' ∧ (q' < (k + 1 : Nat) ∨ q' = 0)) → (∀ j : Int, 0 ≤ j → j < (k + 1 : Nat) → j = q' ∨ slt (yk l) q' j) → J100 q' (List.replicate k (-1, false) ++ [(-1, false)]) τ := by
          intro q' h1 h2
          rw [h100]
          intro _
          exact wk_i (by omega) (bk_of _ (by omega) ⟨k + 1, rfl, rfl, by omega, rep_app, rfl, h1, h2⟩)
        have hlk := hl.sub hs5
        refine roomy_i (by show (List.replicate k ((-1, false) : Sit)).length + 1 ≤ _; simp; omega) (pix3 hlk (by omega) (by omega) (pix3 hlk hq.1 (by omega) (bc_d (fun hy => ?_) (fun hy => ?_))))
        · refine k100 k ⟨by omega, .inl (by omega)⟩ fun j h0 h1 => ?_
          by_cases e : j = k
          · exact .inl e
          · refine .inr ?_
            rcases hmin j h0 (by omega) with rfl | hs
            · unfold slt yk; omega
            · unfold slt yk at hs ⊢; omega
        · refine k100 q ⟨hq.1, by omega⟩ fun j h0 h1 => ?_
          by_cases e : j = k
          · subst e
            by_cases e2 : (k : Int) = q
            · exact .inl e2
            · refine .inr ?_
              unfold slt yk
              omega
          · exact hmin j h0 (by omega)
      · have hkk : k = l.length := by omega
        subst hkk
        have : q = p := by
          rcases hmin p hpr.1 hpr.2 with e | hs1
          · exact e.symm
          · rcases hord.2 q hq.1 (by omega) (by simp) with e | hs2
            · exact e
            · unfold slt at hs1 hs2
              omega
        rw [this]
        exact k13
    have k114 : ∀ t, (t = false → (awE g l).2 = 0 ∧ l.length ≠ 0) → J114 t σ5 := by
      intro t ht
      rw [h114]
      intro _
      exact bc_b (fun _ => clB M_law04_works_enter c_works (rt_of rfl)) (fun hf => k10 (ht hf).1 (ht hf).2)
    refine bc_nd (fun _ => k114 _ fun h => by cases h) (fun he => k114 _ fun h => ⟨he, ?_⟩)
    have := of_decide_eq_false h
    omega
  refine cut_intro fun J121 h121 => ?_
  have k121 : ∀ t, J121 t σ := by
    intro t
    rw [h121]
    intro _
    exact bc_b (fun _ => clB M_law04_works_enter c_works (rt_of rfl)) (fun _ => k3)
  exact clB M_law04_Large_enter (c_Large hg.c.lenI hl.lenP) (bc_b (fun _ => k121 _) (fun _ => k121 _))
set_option maxRecDepth 100000 in
theorem lifted_Rights (os : Os) (started : os.Started) (H : Type) (enc : TypeId × Value → H) :
    ReturnsInHanded {} Try.checked os N_law04_GroundRights .any (Rows.groundRightsSpec.pre6 enc Try.prog Try.f6 Rows.groundRightsRow.domain false) (Rows.groundRightsSpec.post enc Try.prog Try.f6 false true false false) := by
  refine returnsInHanded_of_change (C := Try.checked) Try.own started (by kernel_rfl) Try.func6
    (ChangeSpec.witness6 (enc := enc) (C := Try.checked) false ⟨#[], #[.agg #[.int .i64 0, .int .i64 0, .slice none 0 0, .slice none 0 0], .slice none 0 0], []⟩ 8 (by kernel_rfl) (by kernel_rfl) (by kernel_rfl) (by kernel_rfl)) ?_
  intro W base args ds gs before hval0 hW _ _
  have hval : ∀ (j : Nat) t v, Try.f6.params[j]? = some t → args[j]? = some v → Value.okWide Try.prog W .any base t v := hval0
  have hW' := hW
  obtain ⟨p, q, hA0, hV, rfl, hfz, hnd⟩ := hW
  have hA : DataW.TrodAll enc Try.prog W 0 (fun _ => true) true Try.f6.params.toList args.toList ds p := hA0
  have hA1 := hA
  rw [Try.params6] at hA hval
  obtain ⟨v0, v1, d0, d1, p0, p1, rfl, rfl, rfl, h0, h1⟩ := trodAll_two hA
  obtain ⟨rfl, rfl⟩ := trodVars_none hV
  obtain ⟨x, g, rfl, hg⟩ := open_ground (hval 0 24 v0 rfl rfl) h0
  obtain ⟨lA, ln, lc, l, rfl, _, hl⟩ := open_pits (hval 1 25 v1 rfl rfl) h1
  simp only [List.append_nil] at hW' hA1
  exact law_shut Try.laidOut (by kernel_rfl) rfl Try.underlying4 rfl rfl hW' hA1 (law_Rights hg hl)
theorem groundRights_holds : Rows.GroundRightsSaid :=
  OpenClaim.holds_of_wide N_law04_GroundRights Try.f6 rfl rfl rfl rfl rfl rfl rfl ⟨rfl, rfl, rfl, rfl, rfl⟩ rfl rfl rfl rfl rfl (by kernel_rfl) Try.func6 (by kernel_rfl)
    (of_decide_eq_true (by kernel_rfl)) (by unfold Func.isWrapper; rw [if_neg (of_decide_eq_false (by kernel_rfl))]; exact ⟨rfl, rfl⟩)
    (fun os started H enc _ => lifted_Rights os started H enc)
#print axioms groundRights_holds
end Go.Proofs.Ytmpkiaghkhhlhaa
