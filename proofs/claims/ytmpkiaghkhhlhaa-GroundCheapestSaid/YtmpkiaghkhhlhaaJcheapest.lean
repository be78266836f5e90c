/- For all inputs the law GroundCheapest returns true, and what came in reads as it did. -/
import Derived.Test.YtmpkiaghkhhlhaaB14
import Derived.Test.YtmpkiaghkhhlhaaB21
import Derived.Test.YtmpkiaghkhhlhaaL4
namespace Go.Proofs.Ytmpkiaghkhhlhaa
open Go.RowKit Go.ChangeShapes Go.WideShapes Go.Deep Go.Joins

set_option maxRecDepth 4000 in
theorem law_Cheapest {σ : Hp} {x : GV} {g : Gnd} {lA sA wA : Option Addr} {ln lc sn sc wn wc : Nat} {l : List Pit} {st : List Sit} {ws : List Int} (hg : GRd σ x g) (hl : RdS sP σ lA ln l) (hst : RdS sS σ sA sn st) (hsc : sn ≤ sc) (hws : RdS [.int .i64] σ wA wn ws) :
    FCalls Try.prog N_law04_GroundCheapest #[x.v g, .slice lA ln lc, .agg #[.slice sA sn sc, .slice wA wn wc]] σ fun v _ => v = .bool true := by
  refine M_law04_GroundCheapest_ok _ _ _ _ _ _ _ _ _ _ _ _ _ _ _ _ _ _ _ ?_
  unfold M_law04_GroundCheapest
  have hwn := hws.lenI
  refine cut_intro fun J3 h3 => ?_
  have k3 : (chkS g l st).2 = 0 → 0 < ws.length → ws.length ≤ 30 → J3 σ := by
    intro hck hw0 hw30
    obtain ⟨_, hG, hsl, _, _⟩ := chkS_ok hck
    obtain ⟨a, r, rfl⟩ : ∃ a r, ws = a :: r := by
      cases ws with
      | nil => simp at hw0
      | cons a r => exact ⟨a, r, rfl⟩
    have e0 : gt (a :: r) 0 = a := rfl
    have eN : gt (a :: r) ((wn : Int) - 1) = lst (a :: r) := by
      rw [← lst_gt hw0, hwn]
      congr 1
      omega
    rw [h3]
    intro _
    refine gixg hws (by omega) (by omega) (wk_i (by omega) (gixg hws (by omega) (by omega) ?_))
    rw [e0, eN]
    generalize hb : lst (a :: r) = b at *
    refine cl_of M_ground_Cable_enter (c_ground_Cable hg hl hst) ?_
    rintro v σ12 ⟨A13, l13, c13, rfl, o13⟩
    refine ⟨_, _, _, _, _, rfl, ?_⟩
    have hs12 := o13.sub
    have hcode := cab_code (a := a) (b := b) hck
    have hsymm := cab_symm (a := a) (b := b) hck
    have hway := cab_way (a := a) (b := b) hck
    have hchain := cab_chain (a := a) (b := b) (r := r) hck
    have r13 : RdS [.int .i64] σ12 A13 l13 (cabS g l st a b).1 := o13.rd
    have hlen : (cabS g l st a b).1.length ≤ 7001 := by
      unfold cabS
      split
      · simp
      · split
        · simp
        · split
          · simp
          · have : ∀ (f : Nat) (c : Int), (wayF g (gb (g.opn l st)) (rnds g (gb (g.opn l st)) g.C.length (ini g b)) b f c).length ≤ f + 1 := by
              intro f
              induction f with
              | zero => intro c; simp [wayF]
              | succ f ih =>
                intro c
                rw [wayF]
                split
                · simp
                · simp only [List.length_cons]
                  have := ih (nxt g (gb (g.opn l st)) (rnds g (gb (g.opn l st)) g.C.length (ini g b)) c)
                  omega
            exact this 7000 a
    generalize (cabS g l st a b).1 = way at *
    generalize (cabS g l st a b).2.1 = cost at *
    generalize (cabS g l st a b).2.2 = e at *
    refine cut_intro fun J18 h18 => ?_
    have k18 : e = 0 ∨ e = 3 → J18 σ12 := by
      intro he
      rw [h18]
      intro _
      refine cl_of M_ground_Cable_enter (c_ground_Cable (hg.sub hs12) (hl.sub hs12) (hst.sub hs12)) ?_
      rintro v σ20 ⟨A21, l21, c21, rfl, o21⟩
      refine ⟨_, _, _, _, _, rfl, ?_⟩
      have hs20 := hs12.trans o21.sub
      have hg := hg.sub hs20
      have hl := hl.sub hs20
      have hst := hst.sub hs20
      have hws := hws.sub hs20
      have r13 := r13.sub o21.sub
      have r21 : RdS [.int .i64] σ20 A21 l21 (cabS g l st b a).1 := o21.rd
      obtain ⟨s1, s2⟩ := hsymm he
      have hback := cab_way (a := b) (b := a) hck
      have hlen2 : (cabS g l st b a).1.length ≤ 7001 := by
        unfold cabS
        split
        · simp
        · split
          · simp
          · split
            · simp
            · have : ∀ (f : Nat) (c : Int), (wayF g (gb (g.opn l st)) (rnds g (gb (g.opn l st)) g.C.length (ini g a)) a f c).length ≤ f + 1 := by
                intro f
                induction f with
                | zero => intro c; simp [wayF]
                | succ f ih =>
                  intro c
                  rw [wayF]
                  split
                  · simp
                  · simp only [List.length_cons]
                    have := ih (nxt g (gb (g.opn l st)) (rnds g (gb (g.opn l st)) g.C.length (ini g a)) c)
                    omega
              exact this 7000 b
      generalize (cabS g l st b a).1 = back at *
      generalize (cabS g l st b a).2.1 = same at *
      generalize (cabS g l st b a).2.2 = f at *
      refine clL M_ref04_Open_enter (c_Open hg hG hl hst (by omega)) ?_
      have hol := opn_len (g := g) (l := l) (st := st)
      have hok := hG.ok
      generalize g.opn l st = op at *
      show cut (α := List Bool → Hp → Prop) _ _
      refine cut_intro fun J31 h31 => ?_
      have k31 : J31 op σ20 := by
        rw [h31]
        intro _ A33 l33 c33 σ34 o33
        have hs34 := o33.sub
        have hws := hws.sub hs34
        have r13 := r13.sub hs34
        have hg := hg.sub hs34
        refine cl_of M_ref04_IsWay_enter (c_IsWay hg hG.s o33.rd hol hws (by omega)) ?_
        rintro v σ36 ⟨t, rfl, rfl, ht⟩
        refine ⟨_, rfl, bc_nb (fun _ => clB M_law04_works_enter c_works (rt_of rfl)) (fun htt => ?_)⟩
        have hW := ht.1 htt
        have hch := hW.ch
        have hbb : (0 ≤ b ∧ b < g.C.length) ∧ gb op b = true := by
          have := hW.inr (r.length) (by simp)
          have e2 := lst_gt (w := a :: r) (by simp)
          rw [hb] at e2
          rw [← e2]
          exact this
        obtain ⟨rfl, c2, c3⟩ := hchain hch hb hbb
        have hin : ∀ x ∈ a :: r, 0 ≤ x ∧ x < g.C.length := by
          intro x hx
          obtain ⟨j, hj, rfl⟩ := List.getElem_of_mem hx
          have := (hW.inr j hj).1
          rwa [gt_nat hj] at this
        have hcst := c_Cost (wc := wc) hg hok hws hin (by omega)
        rw [cost_wcs] at hcst
        refine cut_intro fun J43 h43 => ?_
        have k43 : J43 σ36 := by
          rw [h43]
          intro _
          refine cut_intro fun J46 h46 => ?_
          have k46 : J46 σ36 := by
            rw [h46]
            intro _
            exact clB M_law04_works_enter c_works (rt_of rfl)
          have hl13 := r13.lenI
          refine ⟨fun m i τ => ∃ k : Nat, m = (a :: r).length - k ∧ i = k ∧ k ≤ (a :: r).length ∧ τ = σ36 ∧ ∀ j : Nat, j < k → gt way j = gt (a :: r) j, ⟨_, 0, rfl, rfl, by omega, rfl, fun j hj => by omega⟩, ?_⟩
          rintro m i τ ⟨k, rfl, rfl, hk, rfl, hpre⟩ _
          refine cut_intro fun J57 h57 => ?_
          have k57 : k < way.length → k < (a :: r).length → wcs g (a :: r) = cost → J57 τ := by
            intro h1 h2 h3
            rw [h57]
            intro _
            refine gixg r13 (by omega) (by omega) (gixg hws (by omega) (by omega) (bc_nd (fun hne => ?_) (fun heq => ?_)))
            · have := c3 h3 k h1 h2 hpre hne
              refine gixg r13 (by omega) (by omega) (gixg hws (by omega) (by omega) (bc_d (fun _ => clB M_law04_works_enter c_works (rt_of rfl)) (fun hn => absurd this hn)))
            · refine wk_i (by omega) (bk_of _ (by omega) ⟨k + 1, rfl, rfl, by omega, rfl, fun j hj => ?_⟩)
              by_cases ej : j = k
              · rw [ej]; exact heq
              · exact hpre j (by omega)
          refine cut_intro fun J78 h78 => ?_
          have k78 : ∀ t, (t = true → k < way.length ∧ k < (a :: r).length ∧ wcs g (a :: r) = cost) → J78 t τ := by
            intro t ht
            rw [h78]
            intro _
            exact bc_b (fun h => k57 (ht h).1 (ht h).2.1 (ht h).2.2) (fun _ => k46)
          refine bc_d (fun h1 => bc_d (fun h2 => clI M_ref04_Cost_enter hcst (k78 _ fun h => ⟨by omega, by omega, of_decide_eq_true h⟩)) (fun _ => k78 _ fun h => by cases h)) (fun _ => k78 _ fun h => by cases h)
        refine cut_intro fun J85 h85 => bc_nd (fun h => absurd rfl h) (fun _ => clI M_ref04_Cost_enter hcst ?_)
        rw [decide_eq_false (by omega), h85]
        intro _
        exact bc_f k43
      refine cut_intro fun J92 h92 => ?_
      have k92 : ∀ t, t = false → J92 op t σ20 := by
        rintro t rfl
        rw [h92]
        intro _
        exact bc_f k31
      refine bc_nd (fun h => absurd s1.symm h) (fun _ => bc_d (fun he0 => ?_) (fun _ => k92 _ rfl))
      obtain ⟨w1, wb, r', rfl, w2, w3, w4⟩ := hway he0
      obtain ⟨v1, _, r'', rfl, _⟩ := hback (by omega)
      have hl13 := r13.lenI
      have hl21 := r21.lenI
      simp only [List.length_cons] at hl13 hl21
      refine bc_nd (fun h => absurd (s2 he0).symm h) (fun _ => bc_d (fun h => by omega) (fun _ => bc_d (fun h => by omega) (fun _ => ?_)))
      intro A95 l95 c95 σ96 o95
      refine cl_of M_ref04_IsWay_enter (c_IsWay (hg.sub o95.sub) hG.s o95.rd hol (r13.sub o95.sub) (by omega)) ?_
      rintro v σ98 ⟨t, rfl, rfl, ht⟩
      refine ⟨_, rfl, adp_own o95 (bc_nb (fun hf => ?_) (fun _ => ?_))⟩
      · rw [ht.2 w1] at hf
        cases hf
      intro A102 l102 c102 σ103 o102
      refine cl_of M_ref04_IsWay_enter (c_IsWay (hg.sub o102.sub) hG.s o102.rd hol (r21.sub o102.sub) (by omega)) ?_
      rintro v σ105 ⟨t, rfl, rfl, ht2⟩
      refine ⟨_, rfl, adp_own o102 (bc_nb (fun hf => ?_) (fun _ => ?_))⟩
      · rw [ht2.2 v1] at hf
        cases hf
      have e0' : gt (a :: r') 0 = a := rfl
      have eN' : gt (a :: r') ((l13 : Int) - 1) = b := by
        rw [← w3, ← lst_gt (by simp), hl13]
        congr 1
        simp only [List.length_cons]
        omega
      have hl' : r'.length + 1 ≤ 7001 := by simpa using hlen
      refine gixg r13 (by omega) (by simp) ?_
      rw [e0']
      refine bc_nd (fun h => absurd rfl h) (fun _ => wk_i (by omega) (gixg r13 (by omega) (by simp; omega) ?_))
      rw [eN']
      refine bc_nd (fun h => absurd rfl h) (fun _ => ?_)
      have hin : ∀ x ∈ a :: r', 0 ≤ x ∧ x < g.C.length := by
        intro x hx
        obtain ⟨j, hj, rfl⟩ := List.getElem_of_mem hx
        have := (w1.inr j hj).1
        rwa [gt_nat hj] at this
      have hcst := c_Cost (wc := c13) hg hok r13 hin (by omega)
      rw [cost_wcs, w4] at hcst
      refine clI M_ref04_Cost_enter hcst (k92 _ ?_)
      simp
    refine cut_intro fun J121 h121 => ?_
    have k121 : ∀ t, (t = false → e = 0 ∨ e = 3) → J121 t σ12 := by
      intro t ht
      rw [h121]
      intro _
      exact bc_b (fun _ => clB M_law04_works_enter c_works (rt_of rfl)) (fun hf => k18 (ht hf))
    refine bc_nd (fun hne => k121 _ fun h => ?_) (fun he => k121 _ fun _ => .inl he)
    simp only [Bool.not_eq_false', decide_eq_true_eq] at h
    exact .inr h
  refine clII M_ref04_Check_enter (c_ref04_Check hg hl hst hsc) ?_
  refine cut_intro fun J132 h132 => ?_
  have k132 : ∀ t, (t = false → (chkS g l st).2 = 0 ∧ 0 < ws.length ∧ ws.length ≤ 30) → J132 t σ := by
    intro t ht
    rw [h132]
    intro _
    exact bc_b (fun _ => clB M_law04_works_enter c_works (rt_of rfl)) (fun hf => k3 (ht hf).1 (ht hf).2.1 (ht hf).2.2)
  refine clB M_law04_Large_enter (c_Large hg.c.lenI hl.lenP) ?_
  refine bc_b (fun _ => k132 _ fun h => by cases h) (fun _ => bc_nd (fun _ => k132 _ fun h => by cases h) (fun hck => bc_d (fun _ => k132 _ fun h => by cases h) (fun h0 => k132 _ fun h => ⟨hck, by omega, ?_⟩)))
  have := of_decide_eq_false h
  omega
set_option maxRecDepth 100000 in
theorem lifted_Cheapest (os : Os) (started : os.Started) (H : Type) (enc : TypeId × Value → H) :
    ReturnsInHanded {} Try.checked os N_law04_GroundCheapest .any (Rows.groundCheapestSpec.pre6 enc Try.prog Try.f4 Rows.groundCheapestRow.domain false) (Rows.groundCheapestSpec.post enc Try.prog Try.f4 false true false false) := by
  refine returnsInHanded_of_change (C := Try.checked) Try.own started (by kernel_rfl) Try.func4
    (ChangeSpec.witness6 (enc := enc) (C := Try.checked) false ⟨#[], #[.agg #[.int .i64 0, .int .i64 0, .slice none 0 0, .slice none 0 0], .slice none 0 0, .agg #[.slice none 0 0, .slice none 0 0]], []⟩ 8 (by kernel_rfl) (by kernel_rfl) (by kernel_rfl) (by kernel_rfl)) ?_
  intro W base args ds gs before hval0 hW _ _
  have hval : ∀ (j : Nat) t v, Try.f4.params[j]? = some t → args[j]? = some v → Value.okWide Try.prog W .any base t v := hval0
  have hW' := hW
  obtain ⟨p, q, hA0, hV, rfl, hfz, hnd⟩ := hW
  have hA : DataW.TrodAll enc Try.prog W 0 (fun _ => true) true Try.f4.params.toList args.toList ds p := hA0
  have hA1 := hA
  rw [Try.params4] at hA hval
  obtain ⟨v0, v1, v2, d0, d1, d2, p0, p1, p2, rfl, rfl, rfl, h0, h1, h2⟩ := trodAll_three hA
  obtain ⟨rfl, rfl⟩ := trodVars_none hV
  obtain ⟨x, g, rfl, hg⟩ := open_ground (hval 0 24 v0 rfl rfl) h0
  obtain ⟨lA, ln, lc, l, rfl, _, hl⟩ := open_pits (hval 1 25 v1 rfl rfl) h1
  obtain ⟨sA, sn, sc, st, wA, wn, wc, ws, rfl, hsc, hst, hws⟩ := open_run (hval 2 37 v2 rfl rfl) h2
  simp only [List.append_nil] at hW' hA1
  exact law_shut Try.laidOut (by kernel_rfl) rfl Try.underlying4 rfl rfl hW' hA1 (law_Cheapest hg hl hst hsc hws)
theorem groundCheapest_holds : Rows.GroundCheapestSaid :=
  OpenClaim.holds_of_wide N_law04_GroundCheapest Try.f4 rfl rfl rfl rfl rfl rfl rfl ⟨rfl, rfl, rfl, rfl, rfl⟩ rfl rfl rfl rfl rfl (by kernel_rfl) Try.func4 (by kernel_rfl)
    (of_decide_eq_true (by kernel_rfl)) (by unfold Func.isWrapper; rw [if_neg (of_decide_eq_false (by kernel_rfl))]; exact ⟨rfl, rfl⟩)
    (fun os started H enc _ => lifted_Cheapest os started H enc)
#print axioms groundCheapest_holds
end Go.Proofs.Ytmpkiaghkhhlhaa
