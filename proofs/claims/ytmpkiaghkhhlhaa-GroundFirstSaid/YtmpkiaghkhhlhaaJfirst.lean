/- For all inputs the law GroundFirst returns true, and what came in reads as it did. -/
import Derived.Test.YtmpkiaghkhhlhaaB14
import Derived.Test.YtmpkiaghkhhlhaaB18
import Derived.Test.YtmpkiaghkhhlhaaL8
namespace Go.Proofs.Ytmpkiaghkhhlhaa
open Go.RowKit Go.ChangeShapes Go.WideShapes Go.Deep Go.Joins

theorem sit_dec (a b : Sit) : (decide (a.1 = b.1) && (a.2 == b.2)) = decide (a = b) := by
  obtain ⟨a1, a2⟩ := a
  obtain ⟨b1, b2⟩ := b
  cases a2 <;> cases b2 <;> simp
set_option maxRecDepth 4000 in
theorem law_First {σ : Hp} {x : GV} {g : Gnd} {lA sA : Option Addr} {ln lc sn sc : Nat} {l : List Pit} {st : List Sit} (hg : GRd σ x g) (hl : RdS sP σ lA ln l) (hst : RdS sS σ sA sn st) (hsc : sn ≤ sc) :
    FCalls Try.prog N_law04_GroundFirst #[x.v g, .slice lA ln lc, .slice sA sn sc] σ fun v _ => v = .bool true := by
  refine M_law04_GroundFirst_ok _ _ _ _ _ _ _ _ _ _ _ _ _ _ _ _ ?_
  unfold M_law04_GroundFirst
  have hln := hl.lenP
  have hsn := hst.lenS
  refine cut_intro fun J3 h3 => ?_
  have k3 : J3 σ := by
    rw [h3]
    intro _
    refine cl_of M_ground_Lay_enter (c_ground_Lay hg hl) ?_
    rintro v σ5 ⟨A6, l6, c6, rfl, o6⟩
    refine ⟨_, _, _, _, rfl, ?_⟩
    refine cl_of M_ground_Award_enter (c_ground_Award (hg.sub o6.sub) (hl.sub o6.sub)) ?_
    rintro v σ9 ⟨A10, l10, c10, rfl, o10⟩
    refine ⟨_, _, _, _, rfl, ?_⟩
    have hs9 := o6.sub.trans o10.sub
    have hg := hg.sub hs9
    have hl := hl.sub hs9
    have hst := hst.sub hs9
    have rbest : RdS sS σ9 A6 l6 (layE g l).1 := o6.rd.sub o10.sub
    have rgiv : RdS sS σ9 A10 l10 (awE g l).1 := o10.rd
    refine bc_nd (fun hne => ?_) (fun he0 => ?_)
    · have hch : (chkP g l).2 ≠ 0 := by
        intro hc
        rw [awE, if_neg (by simp [hc])] at hne
        exact hne rfl
      rw [layE, if_pos hch, awE, if_pos hch]
      exact bc_d (fun _ => clB M_law04_works_enter c_works (rt_of rfl)) (fun h => absurd rfl h)
    have hch : (chkP g l).2 = 0 := by
      apply Classical.byContradiction
      intro hc
      rw [awE, if_pos hc] at he0
      exact hc he0
    obtain ⟨q1, h8, q3, _⟩ := chkP_ok hch
    have hG : Good g l := ⟨q1, q3, h8⟩
    have ea : awE g l = ((awK g l l.length).st, 0) := by rw [awE, if_neg (by simp [hch])]
    rw [ea] at rgiv
    have h10 : l10 = l.length := by rw [← awK_len hch (Nat.le_refl _)]; exact rgiv.lenS
    have hachk := aw_chk hch
    generalize (awK g l l.length).st = giv at *
    have hel : ((layE g l).2 = 0 ∧ ∃ out, layS g l l.length [] = some out ∧ (layE g l).1 = out) ∨ ((layE g l).2 = 3 ∧ layS g l l.length [] = none) := by
      rw [layE, if_neg (by simp [hch])]
      cases e : layS g l l.length [] with
      | some out => exact .inl ⟨rfl, out, rfl, rfl⟩
      | none => exact .inr ⟨rfl, rfl⟩
    have hfirst : ∀ st', okB g l st' → st'.length = l.length → ∃ out, layS g l l.length [] = some out ∧ notAfter l.length out st' := fun st' h1 h2 => layS_first h1 h2 l.length [] (fun k hk => by cases hk) (by simp) (fun j hj => by cases hj)
    have hlchk : ∀ out, layS g l l.length [] = some out → chkS g l out = (0, 0) ∧ out.length = l.length ∧ ∀ j : Nat, j < out.length → 0 ≤ (sit out j).1 := fun out ho => layS_chk hch ho
    generalize (layE g l).1 = best at *
    generalize (layE g l).2 = e at *
    refine cut_intro fun J17 h17 => ?_
    have k17 : J17 σ9 := by
      rw [h17]
      intro _
      refine cut_intro fun J20 h20 => ?_
      have k20 : ∀ σ', Hp.Sub σ9 σ' → J20 σ' := by
        intro σ' hs
        rw [h20]
        intro _
        refine clII M_ref04_Check_enter (c_ref04_Check (hg.sub hs) (hl.sub hs) (hst.sub hs) hsc) ?_
        refine bc_nd (fun _ => clB M_law04_works_enter c_works (rt_of rfl)) (fun hck => ?_)
        obtain ⟨_, _, hsl, _, hall⟩ := chkS_ok hck
        have rst := hst.sub hs
        have rb := rbest.sub hs
        refine cut_intro fun J30 h30 => ?_
        have k30 : ∀ σ'', Hp.Sub σ' σ'' → (∀ j : Nat, j < st.length → 0 ≤ (sit st j).1) → J30 σ'' := by
          intro σ'' hs2 hpos
          obtain ⟨out, ho, hna⟩ := hfirst st (fun k hk => ⟨hpos k hk, hall k (by omega)⟩) hsl
          rcases hel with ⟨rfl, out', ho', rfl⟩ | ⟨_, hn⟩
          · rw [ho] at ho'
            cases ho'
            obtain ⟨_, hol, _⟩ := hlchk best ho
            have h6 : l6 = l.length := by rw [← hol]; exact rbest.lenS
            rw [h30]
            intro _
            refine cut_intro fun J33 h33 => ?_
            have k33 : J33 σ'' := by
              rw [h33]
              intro _
              refine cut_intro fun J36 h36 => ?_
              refine ⟨fun m i τ => ∃ k : Nat, m = st.length - k ∧ i = k ∧ k ≤ st.length ∧ Hp.Sub σ'' τ ∧ ∀ j : Nat, j < k → sit best j = sit st j, ⟨_, 0, rfl, rfl, by omega, Hp.Sub.refl _, fun j hj => by omega⟩, ?_⟩
              rintro m i τ ⟨k, rfl, rfl, hk, hs3, hsame⟩ _
              refine bc_d (fun hlt => ?_) (fun hlt => ?_)
              · have hkl : k < st.length := by omega
                have r1 := (rst.sub hs2).sub hs3
                have r2 := (rb.sub hs2).sub hs3
                refine six r1 (by omega) (by omega) (six r2 (by omega) (by omega) ?_)
                rw [sit_dec]
                refine bc_nd (fun hne => ?_) (fun heq => wk_i (by omega) (bk_of _ (by omega) ⟨k + 1, rfl, rfl, by omega, hs3, fun j hj => ?_⟩))
                · have hlat : later (sit st k) (sit best k) := by
                    rcases hna with hn | ⟨i, hi, hpre, hdiff, hla⟩
                    · exact absurd (hn k (by omega)).symm hne
                    · have : i = k := by
                        rcases Nat.lt_trichotomy i k with h1 | h1 | h1
                        · exact absurd (hsame i h1) hdiff
                        · exact h1
                        · exact absurd (hpre k h1).symm hne
                      rw [this] at hla
                      exact hla
                  refine cut_intro fun J55 h55 => ?_
                  have k55 : ∀ t, t = true → J55 t τ := by
                    rintro t rfl
                    rw [h55]
                    intro _
                    exact bc_t (clB M_law04_works_enter c_works (rt_of rfl))
                  unfold later at hlat
                  refine six0 r1 (by omega) (by omega) (six0 r2 (by omega) (by omega) (bc_d (fun _ => k55 _ rfl) (fun h1 => six0 r1 (by omega) (by omega) (six0 r2 (by omega) (by omega) (bc_d (fun h2 => ?_) (fun h2 => by omega))))))
                  refine ix_of (ss := sS) r1 rfl (by omega) (by show (k : Int).toNat < st.length; omega) fun b o hc => ?_
                  refine ldB_of (hc 1 (by decide)) (k55 _ ?_)
                  show (st[k]).2 = true
                  rw [← sit_nat hkl]
                  rcases hlat with h3 | h3
                  · omega
                  · exact h3.2
                · by_cases ej : j = k
                  · rw [ej, heq]
                  · exact hsame j (by omega)
              · rw [h36]
                intro _
                exact clB M_law04_works_enter c_works (rt_of rfl)
            refine cut_intro fun J80 h80 => bc_nd (fun h => absurd rfl h) (fun _ => ?_)
            rw [h80]
            intro _
            exact bc_nd (fun h => by omega) (fun _ => k33)
          · rw [ho] at hn
            cases hn
        refine ⟨fun m i τ => ∃ k : Nat, m = st.length - k ∧ i = k ∧ k ≤ st.length ∧ Hp.Sub σ' τ ∧ ∀ j : Nat, j < k → 0 ≤ (sit st j).1, ⟨_, 0, rfl, rfl, by omega, Hp.Sub.refl _, fun j hj => by omega⟩, ?_⟩
        rintro m i τ ⟨k, rfl, rfl, hk, hs3, hpos⟩ _
        refine bc_d (fun hlt => ?_) (fun hlt => ?_)
        · have hkl : k < st.length := by omega
          refine six0 (rst.sub hs3) (by omega) (by omega) (bc_d (fun _ => clB M_law04_works_enter c_works (rt_of rfl)) (fun hp => wk_i (by omega) (bk_of _ (by omega) ⟨k + 1, rfl, rfl, by omega, hs3, fun j hj => ?_⟩)))
          by_cases ej : j = k
          · rw [ej]; omega
          · exact hpos j (by omega)
        · exact k30 τ hs3 fun j hj => hpos j (by omega)
      refine bc_d (fun he => ?_) (fun _ => k20 _ (Hp.Sub.refl _))
      rcases hel with ⟨_, out, ho, rfl⟩ | ⟨h3', _⟩
      · obtain ⟨hoc, hol, hop⟩ := hlchk best ho
        have h6 : l6 = l.length := by rw [← hol]; exact rbest.lenS
        refine cut_intro fun J98 h98 => ?_
        have k98 : J98 σ9 := by
          rw [h98]
          intro _
          refine ⟨fun m i τ => ∃ k : Nat, m = best.length - k ∧ i = k ∧ k ≤ best.length ∧ Hp.Sub σ9 τ, ⟨_, 0, rfl, rfl, by omega, Hp.Sub.refl _⟩, ?_⟩
          rintro m i τ ⟨k, rfl, rfl, hk, hs3⟩ _
          refine bc_d (fun hlt => ?_) (fun hlt => k20 _ hs3)
          have hkl : k < best.length := by omega
          have := hop k hkl
          refine six0 (rbest.sub hs3) (by omega) (by omega) (bc_d (fun hn => by omega) (fun _ => wk_i (by omega) (bk_of _ (by omega) ⟨k + 1, rfl, rfl, by omega, hs3⟩)))
        refine clII M_ground_Check_enter (c_ground_Check hg hl rbest) ?_
        rw [hoc]
        refine cut_intro fun J116 h116 => bc_nd (fun h => absurd rfl h) (fun _ => ?_)
        rw [h116]
        intro _
        exact bc_nd (fun h => by omega) (fun _ => k98)
      · omega
    refine clII M_ground_Check_enter (c_ground_Check hg hl rgiv) ?_
    rw [hachk]
    refine cut_intro fun J124 h124 => bc_nd (fun h => absurd rfl h) (fun _ => bc_nd (fun h => by omega) (fun _ => ?_))
    have k124 : ∀ t, t = false → J124 t σ9 := by
      rintro t rfl
      rw [h124]
      intro _
      exact bc_f k17
    refine bc_nd (fun hne => k124 _ ?_) (fun _ => k124 _ rfl)
    rcases hel with ⟨h1, _⟩ | ⟨h1, _⟩
    · exact absurd h1 hne
    · simp [h1]
  refine cut_intro fun J128 h128 => ?_
  have k128 : ∀ t, J128 t σ := by
    intro t
    rw [h128]
    intro _
    exact bc_b (fun _ => clB M_law04_works_enter c_works (rt_of rfl)) (fun _ => k3)
  exact clB M_law04_Large_enter (c_Large hg.c.lenI hl.lenP) (bc_b (fun _ => k128 _) (fun _ => k128 _))
set_option maxRecDepth 100000 in
theorem lifted_First (os : Os) (started : os.Started) (H : Type) (enc : TypeId × Value → H) :
    ReturnsInHanded {} Try.checked os N_law04_GroundFirst .any (Rows.groundFirstSpec.pre6 enc Try.prog Try.f8 Rows.groundFirstRow.domain false) (Rows.groundFirstSpec.post enc Try.prog Try.f8 false true false false) := by
  refine returnsInHanded_of_change (C := Try.checked) Try.own started (by kernel_rfl) Try.func8
    (ChangeSpec.witness6 (enc := enc) (C := Try.checked) false ⟨#[], #[.agg #[.int .i64 0, .int .i64 0, .slice none 0 0, .slice none 0 0], .slice none 0 0, .slice none 0 0], []⟩ 8 (by kernel_rfl) (by kernel_rfl) (by kernel_rfl) (by kernel_rfl)) ?_
  intro W base args ds gs before hval0 hW _ _
  have hval : ∀ (j : Nat) t v, Try.f8.params[j]? = some t → args[j]? = some v → Value.okWide Try.prog W .any base t v := hval0
  have hW' := hW
  obtain ⟨p, q, hA0, hV, rfl, hfz, hnd⟩ := hW
  have hA : DataW.TrodAll enc Try.prog W 0 (fun _ => true) true Try.f8.params.toList args.toList ds p := hA0
  have hA1 := hA
  rw [Try.params8] at hA hval
  obtain ⟨v0, v1, v2, d0, d1, d2, p0, p1, p2, rfl, rfl, rfl, h0, h1, h2⟩ := trodAll_three hA
  obtain ⟨rfl, rfl⟩ := trodVars_none hV
  obtain ⟨x, g, rfl, hg⟩ := open_ground (hval 0 24 v0 rfl rfl) h0
  obtain ⟨lA, ln, lc, l, rfl, _, hl⟩ := open_pits (hval 1 25 v1 rfl rfl) h1
  obtain ⟨sA, sn, sc, st, rfl, hsc, hst⟩ := open_sits (hval 2 26 v2 rfl rfl) h2
  simp only [List.append_nil] at hW' hA1
  exact law_shut Try.laidOut (by kernel_rfl) rfl Try.underlying4 rfl rfl hW' hA1 (law_First hg hl hst hsc)
theorem groundFirst_holds : Rows.GroundFirstSaid :=
  OpenClaim.holds_of_wide N_law04_GroundFirst Try.f8 rfl rfl rfl rfl rfl rfl rfl ⟨rfl, rfl, rfl, rfl, rfl⟩ rfl rfl rfl rfl rfl (by kernel_rfl) Try.func8 (by kernel_rfl)
    (of_decide_eq_true (by kernel_rfl)) (by unfold Func.isWrapper; rw [if_neg (of_decide_eq_false (by kernel_rfl))]; exact ⟨rfl, rfl⟩)
    (fun os started H enc _ => lifted_First os started H enc)
#print axioms groundFirst_holds
end Go.Proofs.Ytmpkiaghkhhlhaa
