/- For all inputs the law GroundSteps returns true, and what came in reads as it did. -/
import Derived.Test.YtmpkiaghkhhlhaaB14
import Derived.Test.YtmpkiaghkhhlhaaB21
import Derived.Test.YtmpkiaghkhhlhaaB22
import Derived.Test.YtmpkiaghkhhlhaaL10
namespace Go.Proofs.Ytmpkiaghkhhlhaa
open Go.RowKit Go.ChangeShapes Go.WideShapes Go.Deep Go.Joins

theorem OwnSl.capS {e : TypeId} {ss : List Sh} {σ σ' : Hp} {A : Option Addr} {n c : Nat} {xs : List (TyR ss)} (h : OwnSl e ss σ A n c xs σ') : n ≤ c := by
  rcases h with ⟨_, rfl, rfl, _⟩ | ⟨_, _, _, _, _, h, _⟩
  · exact Nat.le_refl _
  · exact h
theorem dec_bne {p q : Prop} [Decidable p] [Decidable q] (h : p ↔ q) : (!((decide p) == (decide q))) = false := by
  by_cases hp : p
  · have hq := h.1 hp
    simp [hp, hq]
  · have hq : ¬ q := fun e => hp (h.2 e)
    simp [hp, hq]
set_option maxRecDepth 4000 in
theorem law_Steps {σ : Hp} {x : GV} {g : Gnd} {lA sA : Option Addr} {ln lc sn sc : Nat} {l : List Pit} {st : List Sit} {a b : Int} (hg : GRd σ x g) (hl : RdS sP σ lA ln l) (hst : RdS sS σ sA sn st) (hsc : sn ≤ sc) :
    FCalls Try.prog N_law04_GroundSteps #[x.v g, .slice lA ln lc, .agg #[.slice sA sn sc, .int .i64 a, .int .i64 b]] σ fun v _ => v = .bool true := by
  refine M_law04_GroundSteps_ok _ _ _ _ _ _ _ _ _ _ _ _ _ _ _ _ _ _ ?_
  unfold M_law04_GroundSteps
  have hln := hl.lenP
  have hsn := hst.lenS
  refine cut_intro fun J3 h3 => ?_
  have k3 : (chkS g l st).2 = 0 → J3 σ := by
    intro hck
    obtain ⟨_, hG, hsl, _, _⟩ := chkS_ok hck
    have ho := hG.s
    obtain ⟨l1, l2, _⟩ := Gnd.okS_len ho
    have hGl := hG.len
    rw [h3]
    intro _
    refine cl_of M_ground_Far_enter (c_ground_Far hg hl hst) ?_
    rw [show farE g l st = (farS g (gb (g.opn l st)), 0) by rw [farE, if_neg (by rw [hck]; simp)]]
    rintro v σ5 ⟨A6, l6, c6, rfl, o6⟩
    refine ⟨_, _, _, _, rfl, bc_nd (fun h => absurd rfl h) (fun _ => ?_)⟩
    have hs5 := o6.sub
    have hg := hg.sub hs5
    have hl := hl.sub hs5
    have hst := hst.sub hs5
    have hX := farS_lab (op := gb (g.opn l st)) ho
    have hXlt := lab_lt ho hX.pre
    have hXlo := hX.lo
    have r6 : RdS [.int .i64] σ5 A6 l6 (farS g (gb (g.opn l st))) := o6.rd
    have hnear := fun (c n : Int) => far_near (g := g) (op := gb (g.opn l st)) (c := c) (n := n) ho
    have hXz := hX.zero
    have hXop := hX.isop
    have hXl := hX.len
    refine clL M_ref04_Open_enter (c_Open hg hG hl hst (by omega)) ?_
    have hol := opn_len (g := g) (l := l) (st := st)
    have hmono := fun (op' : Int → Bool) (hop : ∀ c : Int, 0 ≤ c → c < g.C.length → op' c = true → gb (g.opn l st) c = true) (c : Int) (h0 : 0 ≤ c) (h1 : c < g.C.length) => far_mono (g := g) (op := gb (g.opn l st)) (op' := op') ho hop h0 h1
    have htrp := fun (op' : Int → Bool) (hop : ∀ c : Int, 0 ≤ c → c < g.C.length → op' c = true → gb (g.opn l st) c = true) (b c : Int) (h0 : 0 ≤ c) (h1 : c < g.C.length) => trp_mono (g := g) (op := gb (g.opn l st)) (op' := op') ho hop (b := b) h0 h1
    have hmopn := fun (k : Nat) (hk : k < l.length) (s : Sit) (c : Int) (h0 : 0 ≤ c) (h1 : c < g.C.length) (hno : (sit st k).1 < 0) => more_opn (s := s) hck hk hno h0 h1
    have htrE : 0 ≤ b → b < g.C.length → trpE g l st b = (nums (trp g (gb (g.opn l st)) b) g.C.length, 0) := fun h0 h1 => by
      rw [trpE, if_neg (by rw [hck]; simp), if_neg (by omega)]
    generalize farS g (gb (g.opn l st)) = X at *
    generalize g.opn l st = op at *
    have hl6 := r6.lenI
    show bc _ _ _
    refine bc_nd (fun h => by omega) (fun _ => ?_)
    refine cut_intro fun J15 h15 => ?_
    have k15 : J15 σ5 := by
      rw [h15]
      intro _
      refine cut_intro fun J18 h18 => ?_
      have k18 : ∀ k : Nat, a = k → k < l.length → (sit st k).1 < 0 → 0 ≤ b → b < g.C.length → J18 σ5 := by
        rintro k rfl hk hno hb0 hb1
        rw [h18]
        intro _
        refine cl_of M_ground_Sites_enter (c_ground_Sites hg hl hst) ?_
        rw [show sitS g l st (k : Int) = (plc g (pt l k) (g.takS l st k l.length) (2 * g.C.length), 0) by rw [sitS, if_neg (by rw [hck]; simp), if_neg (by omega)]]
        rintro v σ20 ⟨A21, l21, c21, rfl, o21⟩
        refine ⟨_, _, _, _, rfl, ?_⟩
        have hs20 := o21.sub
        have hg := hg.sub hs20
        have hl := hl.sub hs20
        have hst := hst.sub hs20
        have r6 := r6.sub hs20
        have r21 : RdS sS σ20 A21 l21 (plc g (pt l k) (g.takS l st k l.length) (2 * g.C.length)) := o21.rd
        have hmem := fun s => mem_plc (g := g) (p := pt l k) (full := g.takS l st k l.length) (k := 2 * g.C.length) (s := s)
        generalize plc g (pt l k) (g.takS l st k l.length) (2 * g.C.length) = P at *
        have hl21 := r21.lenS
        refine cut_intro fun J25 h25 => ?_
        have k25 : 0 < P.length → J25 σ20 := by
          intro hP
          rw [h25]
          intro _
          refine adp_nil.2 ⟨st, hst, roomy_i (by show (0 : Nat) + st.length ≤ _; omega) (six r21 (by omega) (by omega) ?_)⟩
          have hs : g.bes (pt l k) (sit P 0) (g.takS l st k l.length) = true := ((hmem (sit P 0)).1 (by rw [sit_eq (by simpa using hP)]; exact List.getElem_mem _)).2
          have hmk := more_chk hck hk hs
          have hopm : ∀ c : Int, 0 ≤ c → c < g.C.length → gb (g.opn l (st.set k (sit P 0))) c = true → gb op c = true := fun c h0 h1 => hmopn k hk (sit P 0) c h0 h1 hno
          have hml : (st.set k (sit P 0)).length = l.length := by simpa using hsl
          show 0 ≤ (k : Int) ∧ (k : Int) < (st.length : Nat) ∧ lat st ((k : Int).toNat) fun _ => exl 50 sS (st.set k (sit P 0)) σ20 _
          refine ⟨by omega, by omega, lat_S (by omega) (by omega) ?_⟩
          have hfar : farE g l (st.set k (sit P 0)) = (farS g (gb (g.opn l (st.set k (sit P 0)))), 0) := by rw [farE, if_neg (by rw [hmk]; simp)]
          have htr2 : trpE g l (st.set k (sit P 0)) b = (nums (trp g (gb (g.opn l (st.set k (sit P 0)))) b) g.C.length, 0) := by rw [trpE, if_neg (by rw [hmk]; simp), if_neg (by omega)]
          have hYl := (farS_lab (op := gb (g.opn l (st.set k (sit P 0)))) ho).len
          have hol2 := opn_len (g := g) (l := l) (st := st.set k (sit P 0))
          generalize st.set k (sit P 0) = more at *
          intro A34 l34 c34 σ35 o34
          have r34 : RdS sS σ35 A34 l34 more := o34.rd
          have hs34 := o34.sub
          refine clII M_ref04_Check_enter (c_ref04_Check (hg.sub hs34) (hl.sub hs34) r34 o34.capS) ?_
          rw [hmk]
          refine adp_own o34 (bc_nd (fun h => absurd rfl h) (fun _ => ?_))
          intro A42 l42 c42 σ43 o42
          have r42 : RdS sS σ43 A42 l42 more := o42.rd
          have hs42 := o42.sub
          refine cl_of M_ground_Far_enter (c_ground_Far (hg.sub hs42) (hl.sub hs42) r42) ?_
          rw [hfar]
          rintro v σ45 ⟨A46, l46, c46, rfl, o46⟩
          refine ⟨_, _, _, _, rfl, ?_⟩
          obtain ⟨σ49, p46, p42⟩ := o42.swap o46
          refine adp_own p42 ?_
          have hs49 := p46.sub
          have hg := hg.sub hs49
          have hl := hl.sub hs49
          have hst := hst.sub hs49
          have r6 := r6.sub hs49
          have r46 : RdS [.int .i64] σ49 A46 l46 (farS g (gb (g.opn l more))) := p46.rd
          refine cl_of M_ground_Trapped_enter (c_ground_Trapped hg hl hst) ?_
          rw [htrE hb0 hb1]
          rintro v σ51 ⟨A52, l52, c52, rfl, o52⟩
          refine ⟨_, _, _, _, rfl, ?_⟩
          have hs51 := o52.sub
          have hg := hg.sub hs51
          have hl := hl.sub hs51
          have r6 := r6.sub hs51
          have r46 := r46.sub hs51
          have r52 : RdS [.int .i64] σ51 A52 l52 (nums (trp g (gb op) b) g.C.length) := o52.rd
          intro A54 l54 c54 σ55 o54
          have r54 : RdS sS σ55 A54 l54 more := o54.rd
          have hs54 := o54.sub
          refine cl_of M_ground_Trapped_enter (c_ground_Trapped (hg.sub hs54) (hl.sub hs54) r54) ?_
          rw [htr2]
          rintro v σ57 ⟨A58, l58, c58, rfl, o58⟩
          refine ⟨_, _, _, _, rfl, ?_⟩
          obtain ⟨σ61, p58, p54⟩ := o54.swap o58
          refine adp_own p54 ?_
          have hs61 := p58.sub
          have hg := hg.sub hs61
          have hl := hl.sub hs61
          have r6 := r6.sub hs61
          have r46 := r46.sub hs61
          have r52 := r52.sub hs61
          have r58 : RdS [.int .i64] σ61 A58 l58 (nums (trp g (gb (g.opn l more)) b) g.C.length) := p58.rd
          show cut (α := Hp → Prop) _ _
          refine cut_intro fun J64 h64 => ?_
          have k64 : J64 σ61 := by
            rw [h64]
            intro _ A65 l65 c65 σ66 o65
            have r65 : RdS sS σ66 A65 l65 more := o65.rd
            have hs65 := o65.sub
            have hg := hg.sub hs65
            have hl := hl.sub hs65
            have r6 := r6.sub hs65
            have r46 := r46.sub hs65
            have r52 := r52.sub hs65
            have r58 := r58.sub hs65
            refine clL M_ref04_Open_enter (c_Open hg hG hl r65 (by omega)) ?_
            have hm1 := hmono (gb (g.opn l more)) hopm
            have ht1 := htrp (gb (g.opn l more)) hopm b
            generalize farS g (gb (g.opn l more)) = Y at *
            generalize hop2 : g.opn l more = op2 at *
            have hnl1 := nums_len (p := trp g (gb op) b) (k := g.C.length)
            have hnl2 := nums_len (p := trp g (gb op2) b) (k := g.C.length)
            show cut (α := Hp → Prop) _ _
            have hl46 := r46.lenI
            refine cut_intro fun J74 h74 => ?_
            refine ⟨fun m i τ => ∃ j : Nat, m = g.C.length - j ∧ i = j ∧ j ≤ g.C.length ∧ τ = σ66, ⟨_, 0, rfl, rfl, by omega, rfl⟩, ?_⟩
            rintro m i τ ⟨j, rfl, rfl, hj, rfl⟩ _
            refine bc_d (fun hlt => ?_) (fun hlt => ?_)
            · have hjl : (j : Int) < g.C.length := by omega
              refine cut_intro fun J85 h85 => ?_
              have k85 : J85 τ := by
                rw [h85]
                intro _
                exact wk_i (by omega) (bk_of _ (by omega) ⟨j + 1, rfl, rfl, by omega, rfl⟩)
              refine cut_intro fun J91 h91 => ?_
              have k91 : J91 τ := by
                rw [h91]
                intro _
                refine cut_intro fun J94 h94 => ?_
                have k94 : J94 false τ := by
                  rw [h94]
                  intro _
                  exact bc_f k85
                refine ⟨by omega, by omega, lat_b (by omega) (by omega) (bc_b (fun hopen => ?_) (fun _ => k94))⟩
                refine clB M_law04_has_enter (c_has r52 (by omega)) (bc_d (fun hin => ?_) (fun _ => k94))
                refine clB M_law04_has_enter (c_has r58 (by omega)) ?_
                have := mem_nums.2 ⟨⟨by omega, hjl⟩, ht1 j (by omega) hjl hopen (mem_nums.1 hin).2⟩
                rw [decide_eq_true this]
                exact k94
              refine cut_intro fun J105 h105 => ?_
              have k105 : ∀ t, t = false → J105 t τ := by
                rintro t rfl
                rw [h105]
                intro _
                exact bc_f k91
              refine ⟨by omega, by omega, lat_b (by omega) (by omega) (bc_b (fun hopen => ?_) (fun _ => k105 _ rfl))⟩
              refine gixg r46 (by omega) (by omega) (bc_d (fun hpos => ?_) (fun _ => k105 _ rfl))
              have := hm1 j (by omega) hjl hpos
              refine gixg r6 (by omega) (by omega) (bc_d (fun hneg => by omega) (fun _ => gixg r46 (by omega) (by omega) (gixg r6 (by omega) (by omega) (k105 _ ?_))))
              exact decide_eq_false (by omega)
            · rw [h74]
              intro _
              exact clB M_law04_works_enter c_works (rt_of rfl)
          refine cut_intro fun J122 h122 => ?_
          have k122 : ∀ t, t = false → J122 t σ61 := by
            rintro t rfl
            rw [h122]
            intro _
            exact bc_f k64
          have hl46 := r46.lenI
          refine bc_nd (fun h => absurd rfl h) (fun _ => bc_nd (fun h => absurd rfl h) (fun _ => bc_nd (fun h => absurd rfl h) (fun _ => k122 _ ?_)))
          rw [hl46, hYl, hol]
          simp
        refine cut_intro fun J126 h126 => bc_nd (fun h => absurd rfl h) (fun _ => ?_)
        rw [h126]
        intro _
        refine bc_d (fun _ => bc_d (fun _ => clB M_law04_works_enter c_works (rt_of rfl)) (fun h => absurd rfl h)) (fun h => k25 (by omega))
      refine cut_intro fun J133 h133 => ?_
      have k133 : ∀ t, (t = false → ∃ k : Nat, a = k ∧ k < l.length ∧ (sit st k).1 < 0 ∧ 0 ≤ b ∧ b < g.C.length) → J133 t σ5 := by
        intro t ht
        rw [h133]
        intro _
        refine bc_b (fun _ => clB M_law04_works_enter c_works (rt_of rfl)) (fun hf => ?_)
        obtain ⟨k, q1, q2, q3, q4, q5⟩ := ht hf
        exact k18 k q1 q2 q3 q4 q5
      refine bc_d (fun _ => k133 _ fun h => by cases h) (fun ha0 => bc_d (fun _ => k133 _ fun h => by cases h) (fun ha1 => ?_))
      obtain ⟨k, rfl⟩ : ∃ k : Nat, a = k := ⟨a.toNat, by omega⟩
      refine six0 hst (by omega) (by omega) (bc_d (fun _ => k133 _ fun h => by cases h) (fun hno => bc_d (fun _ => k133 _ fun h => by cases h) (fun hb0 => k133 _ fun h => ⟨k, rfl, by omega, by omega, by omega, ?_⟩)))
      have := of_decide_eq_false h
      omega
    refine ⟨fun m i τ => ∃ j : Nat, m = g.C.length - j ∧ i = j ∧ j ≤ g.C.length ∧ τ = σ5, ⟨_, 0, rfl, rfl, by omega, rfl⟩, ?_⟩
    rintro m i τ ⟨j, rfl, rfl, hj, rfl⟩ _
    refine bc_d (fun hlt => ?_) (fun hlt => k15)
    have hjl : (j : Int) < g.C.length := by omega
    refine cut_intro fun J148 h148 => ?_
    have k148 : J148 τ := by
      rw [h148]
      intro _
      exact wk_i (by omega) (bk_of _ (by omega) ⟨j + 1, rfl, rfl, by omega, rfl⟩)
    refine clL M_ref04_Neighbours_enter (c_Neighbours ho (by omega) hjl) ?_
    have hnl := nbr_len (g := g) (c := j)
    have hnin := nbr_in ho (c := j) (by omega) hjl
    have hnear := fun n => hnear j n (by omega) hjl
    have x1 := hXlt j (by omega) hjl
    have x2 := hXlo j (by omega) hjl
    generalize g.nbr j = ns at *
    show cut (α := Hp → Prop) _ _
    refine cut_intro fun J159 h159 => ?_
    have k159 : J159 τ := by
      rw [h159]
      intro _
      refine cut_intro fun J162 h162 => ?_
      have k162 : ∀ t, t = false → J162 t τ := by
        rintro t rfl
        rw [h162]
        intro _
        exact bc_f k148
      have z := hXz j (by omega) hjl
      have zo := hXop j (by omega) hjl
      refine gixg r6 (by omega) (by omega) ⟨by omega, by omega, lat_b (by omega) (by omega) (bc_b (fun hopen => gixg hg.c (by omega) (by omega) ?_) (fun hcl => ?_))⟩
      · rw [dec_bne (p := gt X j = 0) (q := gt g.C j = 3) ⟨fun h => (z.1 h).2, fun h => z.2 ⟨hopen, h⟩⟩]
        refine bc_f (gixg r6 (by omega) (by omega) (bc_d (fun hp => ⟨by omega, by omega, lat_b (by omega) (by omega) (k162 _ ?_)⟩) (fun _ => k162 _ rfl)))
        rw [hopen]; rfl
      · rw [decide_eq_false (p := gt X j = 0) fun h => by rw [(z.1 h).1] at hcl; cases hcl]
        refine bc_f (gixg r6 (by omega) (by omega) (bc_d (fun hp => ⟨by omega, by omega, lat_b (by omega) (by omega) (k162 _ ?_)⟩) (fun _ => k162 _ rfl)))
        rw [zo hp]; rfl
    refine ⟨fun m i τ' => ∃ p : Nat, m = ns.length - p ∧ i = p ∧ p ≤ ns.length ∧ τ' = τ, ⟨_, 0, rfl, rfl, by omega, rfl⟩, ?_⟩
    rintro m i τ' ⟨p, rfl, rfl, hp, rfl⟩ _
    refine bc_d (fun hlt2 => ?_) (fun hlt2 => k159)
    have hpl : p < ns.length := by omega
    refine cut_intro fun J186 h186 => ?_
    have k186 : J186 τ' := by
      rw [h186]
      intro _
      exact wk_i (by omega) (bk_of _ (by omega) ⟨p + 1, rfl, rfl, by omega, rfl⟩)
    refine cut_intro fun J192 h192 => ?_
    have k192 : ∀ t, t = false → J192 t τ' := by
      rintro t rfl
      rw [h192]
      intro _
      exact bc_f k186
    have hnm := gt_mem hpl
    obtain ⟨n0, n1⟩ := hnin _ hnm
    have y1 := hXlt _ n0 n1
    have y2 := hXlo _ n0 n1
    refine ⟨by omega, by omega, lat_b (by omega) (by omega) (bc_b (fun hoj => ⟨by omega, by omega, lat_I (by omega) (by omega) ⟨n0, by omega, lat_b n0 (by omega) (bc_b (fun hon => ?_) (fun _ => k192 _ rfl))⟩⟩) (fun _ => k192 _ rfl))⟩
    obtain ⟨d1, d2⟩ := hnear _ hnm hoj hon
    refine gixg r6 (by omega) (by omega) ⟨by omega, by omega, lat_I (by omega) (by omega) (gixg r6 n0 (by omega) (wk_i (by omega) (bc_d (fun h => absurd h d1) (fun _ => ?_))))⟩
    refine gixg r6 (by omega) (by omega) ⟨by omega, by omega, lat_I (by omega) (by omega) (gixg r6 n0 (by omega) (k192 _ (dec_bne d2)))⟩
  refine clII M_ref04_Check_enter (c_ref04_Check hg hl hst hsc) ?_
  refine cut_intro fun J218 h218 => ?_
  have k218 : ∀ t, (t = false → (chkS g l st).2 = 0) → J218 t σ := by
    intro t ht
    rw [h218]
    intro _
    exact bc_b (fun _ => clB M_law04_works_enter c_works (rt_of rfl)) (fun hf => k3 (ht hf))
  refine clB M_law04_Large_enter (c_Large hg.c.lenI hl.lenP) ?_
  refine bc_b (fun _ => k218 _ fun h => by cases h) (fun _ => k218 _ fun h => ?_)
  simpa using h
set_option maxRecDepth 100000 in
theorem lifted_Steps (os : Os) (started : os.Started) (H : Type) (enc : TypeId × Value → H) :
    ReturnsInHanded {} Try.checked os N_law04_GroundSteps .any (Rows.groundStepsSpec.pre6 enc Try.prog Try.f10 Rows.groundStepsRow.domain false) (Rows.groundStepsSpec.post enc Try.prog Try.f10 false true false false) := by
  refine returnsInHanded_of_change (C := Try.checked) Try.own started (by kernel_rfl) Try.func10
    (ChangeSpec.witness6 (enc := enc) (C := Try.checked) false ⟨#[], #[.agg #[.int .i64 0, .int .i64 0, .slice none 0 0, .slice none 0 0], .slice none 0 0, .agg #[.slice none 0 0, .int .i64 0, .int .i64 0]], []⟩ 8 (by kernel_rfl) (by kernel_rfl) (by kernel_rfl) (by kernel_rfl)) ?_
  intro W base args ds gs before hval0 hW _ _
  have hval : ∀ (j : Nat) t v, Try.f10.params[j]? = some t → args[j]? = some v → Value.okWide Try.prog W .any base t v := hval0
  have hW' := hW
  obtain ⟨p, q, hA0, hV, rfl, hfz, hnd⟩ := hW
  have hA : DataW.TrodAll enc Try.prog W 0 (fun _ => true) true Try.f10.params.toList args.toList ds p := hA0
  have hA1 := hA
  rw [Try.params10] at hA hval
  obtain ⟨v0, v1, v2, d0, d1, d2, p0, p1, p2, rfl, rfl, rfl, h0, h1, h2⟩ := trodAll_three hA
  obtain ⟨rfl, rfl⟩ := trodVars_none hV
  obtain ⟨x, g, rfl, hg⟩ := open_ground (hval 0 24 v0 rfl rfl) h0
  obtain ⟨lA, ln, lc, l, rfl, _, hl⟩ := open_pits (hval 1 25 v1 rfl rfl) h1
  obtain ⟨sA, sn, sc, st, a, b, rfl, hsc, hst⟩ := open_plan (hval 2 28 v2 rfl rfl) h2
  simp only [List.append_nil] at hW' hA1
  exact law_shut Try.laidOut (by kernel_rfl) rfl Try.underlying4 rfl rfl hW' hA1 (law_Steps hg hl hst hsc)
theorem groundSteps_holds : Rows.GroundStepsSaid :=
  OpenClaim.holds_of_wide N_law04_GroundSteps Try.f10 rfl rfl rfl rfl rfl rfl rfl ⟨rfl, rfl, rfl, rfl, rfl⟩ rfl rfl rfl rfl rfl (by kernel_rfl) Try.func10 (by kernel_rfl)
    (of_decide_eq_true (by kernel_rfl)) (by unfold Func.isWrapper; rw [if_neg (of_decide_eq_false (by kernel_rfl))]; exact ⟨rfl, rfl⟩)
    (fun os started H enc _ => lifted_Steps os started H enc)
#print axioms groundSteps_holds
end Go.Proofs.Ytmpkiaghkhhlhaa
