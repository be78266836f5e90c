/- For all inputs the law QueuePrices returns true, and what came in reads as it did. -/
import Derived.Test.YtgcefaikdplbkaaGreatKa1
import Derived.Test.YtgcefaikdplbkaaGreatRc3
import Derived.Test.YtgcefaikdplbkaaGreatQLPrices
namespace Go.Proofs.YtgcefaikdplbkaaGreat
open Go.RowKit Go.ChangeShapes Go.WideShapes Go.Deep Go.Joins

section
variable {H : Type} {enc : TypeId × Value → H} {W : World} {sp : Nat → Bool} {hd : Bool}
set_option maxRecDepth 100000 in
theorem open_prices {v : Value} {d : DataW H} {p : List MemPlace} {b0 : Nat} (hv : Value.okWide Tryz.prog W .any b0 38 v) (h : DataW.Trod enc Tryz.prog W 0 sp hd 38 v d p) : ∃ (i : Int) (s : SL) (xs : List Int), v = .agg #[.int .i64 i, s.v] ∧ RdS [.int .i64] (whole W) s.A s.n xs := by
  obtain ⟨v0, v1, y0, y1, n, rfl, _, _, h0, h1⟩ := open_agg2 Tryz.underlying38 (by kernel_rfl) (by kernel_rfl) hv h
  obtain ⟨i, e1, _⟩ := DataW.trod_int Tryz.underlying3 h0
  cases e1
  obtain ⟨A, n, c, xs, rfl, _, hr⟩ := open_ints1 h1
  exact ⟨i, ⟨A, n, c⟩, xs, rfl, hr⟩
end
theorem prC_dec {c : Int} {n : Nat} {i : Int} {ps : List Int} (h : prC c n i ps = 0) : c = 0 ∧ (0 ≤ i ∧ i < n) ∧ ps.length ≤ 20 ∧ ∀ p ∈ ps, 0 ≤ p ∧ p ≤ 100 := by
  obtain ⟨h1, h2⟩ := prC_ok h
  obtain ⟨a, b, c⟩ := rideC_ok h1
  obtain ⟨d, e⟩ := okPs_of h2
  exact ⟨a, ⟨b, c⟩, d.2, e⟩
section
variable {σ : Hp} {w : Int} {r l : SL} {B : List BthG} {ws : Nat → SL} {G : List Grp}
set_option maxRecDepth 20000 in
theorem law_Prices {i : Int} {pl : SL} {ps : List Int} (he : EvR σ r B l ws G) (hps : RdS [.int .i64] σ pl.A pl.n ps) : FCalls Tryz.prog N_law07_QueuePrices #[.agg #[r.v, .int .i64 w], l.v, .agg #[.int .i64 i, pl.v]] σ fun v _ => v = .bool true := by
  refine M_law07_QueuePrices_ok _ _ _ _ _ _ _ _ _ _ _ _ _ ?_
  unfold M_law07_QueuePrices
  have hpn : pl.n = ps.length := hps.lenI
  obtain ⟨T, hT⟩ := exT w B G i
  refine cut_intro fun J3 h3 => ?_
  have k3 : B.length ≤ 10 → G.length ≤ 70 → (∀ k, (h : k < G.length) → G[k].wants.length ≤ 20) → ps.length ≤ 40 → J3 σ := by
    intro f1 f2 f3 f4
    rw [h3]
    intro _
    have fw : ∀ k, (h : k < G.length) → G[k].wants.length ≤ 4294967296 := fun k hk => by have := f3 k hk; omega
    refine cut_intro fun J6 h6 => ?_
    have k6 : ∀ a m σ5, Hp.Sub σ σ5 → (prC (chkQ w B G) B.length i ps = 0 → Best T ps a m) → (¬ prC (chkQ w B G) B.length i ps = 0 → a = 0 ∧ m = 0) → J6 a m (prC (chkQ w B G) B.length i ps) σ5 := by
      intro a m σ5 hs5 hb1 hb2
      rw [h6]
      intro _
      have he5 := he.sub hs5
      have hps5 := hps.sub hs5
      refine cl_of M_ref07_Price_enter (c_refPrice (pl := pl) he5 (by omega) (by omega) fw hps5 (by omega) hT) ?_
      rintro v σ11 ⟨a', m', rfl, hs11, hb3, hb4⟩
      refine ⟨_, _, _, rfl, ?_⟩
      have hae : a = a' ∧ m = m' := by
        by_cases h : prC (chkQ w B G) B.length i ps = 0
        · exact (hb1 h).uniq (hb3 h)
        · have x := hb2 h
          have y := hb4 h
          omega
      obtain ⟨rfl, rfl⟩ := hae
      have he11 := he5.sub hs11
      have hps11 := hps5.sub hs11
      refine cut_intro fun J17 h17 => ?_
      have k17 : J17 σ11 := by
        rw [h17]
        intro _
        refine bc_nd (fun _ => l_works (rt_of rfl)) (fun hc0 => ?_)
        obtain ⟨hc, ⟨i0, i1⟩, hp20, hpin⟩ := prC_dec hc0
        have hv := chkQ_val hc
        have hb := hb1 hc0
        refine cut_intro fun J23 h23 => ?_
        have k23 : ∀ τ, J23 τ := by
          intro τ
          rw [h23]
          intro _
          exact l_works (rt_of rfl)
        refine ⟨fun q j τ => ∃ k : Nat, q = ps.length - k ∧ j = k ∧ k ≤ ps.length ∧ Hp.Sub σ11 τ, ⟨_, 0, rfl, rfl, by omega, Hp.Sub.refl _⟩, ?_⟩
        rintro q j τ ⟨k, rfl, rfl, hk, hs⟩ _
        refine bc_d (fun hlt => ?_) (fun _ => k23 _)
        have hkl : k < ps.length := by omega
        refine cut_intro fun J34 h34 => ?_
        have k34 : ∀ τ', Hp.Sub σ11 τ' → J34 τ' := by
          intro τ' a
          rw [h34]
          intro _
          exact wk_i (by omega) (bk_of _ (by omega) ⟨k + 1, rfl, by omega, by omega, a⟩)
        have hpk := hpin _ (List.getElem_mem hkl)
        have hbk := hb.b _ (List.getElem_mem hkl)
        have egt : gt ps k = ps[k] := gt_nat hkl
        have hvp := hv.atP i0 i1 hpk
        have hTk := (hT _ hvp).t
        generalize ps[k] = p at *
        have heτ := he11.sub hs
        refine cl_of M_ref07_Copy_enter (c_Copy heτ (by omega)) ?_
        rintro v σ39 ⟨r', rfl, ho⟩
        refine ⟨_, _, _, _, rfl, ?_⟩
        refine gixg ((hps11.sub hs).sub ho.sub) (by omega) (by omega) ?_
        rw [egt]
        refine OwnSl.stB (j := 1) (b' := { bd B i with price := p }) ho (Hp.Sub.refl _) i0 i1 rfl fun σ46 σ47 h46 s46 => ?_
        have hs47 : Hp.Sub τ σ47 := h46.sub.trans s46
        have he47 := heτ.sub hs47
        refine cl_of M_ref07_CopyGroups_enter (c_CopyGroups he47 (by omega) fw) ?_
        rintro v σ49 ⟨l', ws', rfl, hs49, hl', hw'⟩
        have he' : EvR σ49 r' (atP B i p) l' ws' G := ⟨(h46.rd.sub s46).sub hs49, hl', hw'⟩
        refine ⟨_, _, _, rfl, hs49, ?_⟩
        obtain ⟨ts, eTs, htl, ht8, htb, _, _, htk⟩ := hTk
        refine cl_of M_queue_Takes_enter (htk σ49 r' l' ws' he') ?_
        rintro v σ52 ⟨s, rfl, hos⟩
        rw [ofL_ok rfl] at hos
        have hrt := hos.rd
        have htn : s.n = ts.length := hrt.lenI
        have hs52 : Hp.Sub σ11 σ52 := ((hs.trans hs47).trans hs49).trans hos.sub
        refine ⟨_, _, _, _, rfl, ?_⟩
        refine cut_intro fun J57 h57 => ?_
        have k57 : J57 (T p) σ52 := by
          rw [h57]
          intro _
          refine cut_intro fun J61 h61 => ?_
          have k61 : J61 false σ52 := by
            rw [h61]
            intro _
            exact k34 _ hs52
          refine bc_nd (fun h => absurd rfl h) (fun _ => ?_)
          refine bc_d (fun h => absurd h (by omega)) (fun _ => ?_)
          refine bc_d (fun h => gixg (hps11.sub hs52) (by omega) (by omega) ?_) (fun _ => k61)
          rw [egt, decide_eq_false (by have := hbk.2 h; omega)]
          exact k61
        refine ⟨fun q n j τ' => ∃ u : Nat, q = ts.length - u ∧ n = sumI (ts.take u) ∧ j = u ∧ u ≤ ts.length ∧ τ' = σ52, ⟨_, 0, rfl, rfl, rfl, by omega, rfl⟩, ?_⟩
        rintro q n j τ' ⟨u, rfl, rfl, rfl, hu, rfl⟩ _
        refine bc_d (fun hlt2 => ?_) (fun hge2 => ?_)
        · have hul : u < ts.length := by omega
          have b1 := sumI_in ht8 htb u
          have b2 := sumI_in ht8 htb (u + 1)
          have e3 := sumI_takeP hul
          have b3 := htb u (by omega) (by omega)
          exact gixg hrt (by omega) (by omega) (wk_i (by omega) (wk_i (by omega) (bk_of (ts.length - (u + 1)) (by omega) ⟨u + 1, rfl, e3.symm, by omega, by omega, rfl⟩)))
        · have : u = ts.length := by omega
          subst this
          rw [List.take_length, ← eTs]
          exact k57
      refine cut_intro fun J81 h81 => ?_
      have k81 : J81 false σ11 := by
        rw [h81]
        intro _
        exact k17
      refine bc_nd (fun h => absurd rfl h) (fun _ => bc_nd (fun h => absurd rfl h) (fun _ => ?_))
      rw [decide_eq_true rfl]
      exact k81
    have leafP : ∀ (r' l' : SL) (ws' : Nat → SL) (σ88 : Hp), Hp.Sub σ σ88 → EvR σ88 r' B l' ws' G → ∃ ys : List Int, RdS [.int .i64] σ88 pl.A pl.n ys ∧ roomy (([] : List Int).length + ys.length) (exl 3 [.int .i64] (([] : List Int) ++ ys) σ88 fun A91 l91 c91 σ92 =>
        cl Tryz.prog (.func (.func N_queue_Price) #[] #[]) #[.agg #[r'.v, .int .i64 w], l'.v, .int .i64 i, .slice A91 l91 c91] σ92 fun v93 σ94 => ∃ n95 : Int, ∃ n96 : Int, ∃ n97 : Int, (v93 = (.tuple #[(.int .i64 n95), (.int .i64 n96), (.int .i64 n97)]) ∧ J6 n95 n96 n97 σ94)) := by
      intro r' l' ws' σ88 hs88 he88
      refine ⟨ps, hps.sub hs88, roomy_i (by rw [List.length_nil, Nat.zero_add]; omega) ?_⟩
      intro A91 l91 c91 σ92 ho
      refine cl_of M_queue_Price_enter (c_Price (pl := ⟨A91, l91, c91⟩) (ps := ps) (he88.sub ho.sub) ho.rd (by omega) hT) ?_
      rintro v σ94 ⟨a, m, rfl, hs94, hb1, hb2⟩
      exact ⟨_, _, _, rfl, k6 a m σ94 ((hs88.trans ho.sub).trans hs94) hb1 hb2⟩
    have leafG : ∀ (r' : SL) (σ84 : Hp) (P : Option Addr → Nat → Nat → Hp → Prop), Hp.Sub σ σ84 → RdS sB σ84 r'.A r'.n (B.map bthT) → (∀ (l' : SL) (ws' : Nat → SL) (σ88 : Hp), Hp.Sub σ σ88 → EvR σ88 r' B l' ws' G → P l'.A l'.n l'.c σ88) →
        cl Tryz.prog (.func (.func N_ref07_CopyGroups) #[] #[]) #[l.v] σ84 fun v87 σ88 => ∃ A89 : Option Addr, ∃ l89 : Nat, ∃ c89 : Nat, (v87 = (.slice A89 l89 c89) ∧ (Hp.Sub σ84 σ88 ∧ P A89 l89 c89 σ88)) := by
      intro r' σ84 P hs84 hr84 hP
      refine cl_of M_ref07_CopyGroups_enter (c_CopyGroups (he.sub hs84) (by omega) fw) ?_
      rintro v σ88 ⟨l', ws', rfl, hs88, hl', hw'⟩
      exact ⟨_, _, _, rfl, hs88, hP l' ws' σ88 (hs84.trans hs88) ⟨hr84.sub hs88, hl', hw'⟩⟩
    have leafC : ∀ (P : Option Addr → Nat → Nat → Int → Hp → Prop), (∀ (r' : SL) (σ84 : Hp), Hp.Sub σ σ84 → RdS sB σ84 r'.A r'.n (B.map bthT) → P r'.A r'.n r'.c w σ84) →
        cl Tryz.prog (.func (.func N_ref07_Copy) #[] #[]) #[.agg #[r.v, .int .i64 w]] σ fun v83 σ84 => ∃ A85 : Option Addr, ∃ l85 : Nat, ∃ c85 : Nat, ∃ n86 : Int, (v83 = (.agg #[(.slice A85 l85 c85), (.int .i64 n86)]) ∧ (Hp.Sub σ σ84 ∧ P A85 l85 c85 n86 σ84)) := by
      intro P hP
      refine cl_of M_ref07_Copy_enter (c_Copy he (by omega)) ?_
      rintro v σ84 ⟨r', rfl, ho⟩
      exact ⟨_, _, _, _, rfl, ho.sub, hP r' σ84 ho.sub ho.rd⟩
    repeat' (first | (refine leafC _ fun r' σ84 hs84 hr84 => ?_) | (refine leafG _ _ _ hs84 hr84 fun l' ws' σ88 hs88 he88 => ?_) | exact leafP _ _ _ _ hs88 he88 | apply And.intro)
  refine cut_intro fun J258 h258 => ?_
  have k258 : ∀ t : Bool, (t = false → (B.length ≤ 10 ∧ G.length ≤ 70 ∧ ∀ k, (h : k < G.length) → G[k].wants.length ≤ 20) ∧ ps.length ≤ 40) → J258 t σ := by
    intro t ht
    rw [h258]
    intro _
    exact bc_b (fun _ => l_works (rt_of rfl)) (fun e => k3 (ht e).1.1 (ht e).1.2.1 (ht e).1.2.2 (ht e).2)
  refine clB M_law07_Far_enter (c_Far he) (bc_b (fun _ => k258 true fun h => by cases h) (fun hf => ?_))
  have hend : J258 (decide ((40 : Int) < ((pl.n : Nat) : Int))) σ := k258 _ fun h => ⟨far_no hf, by have := of_decide_eq_false h; omega⟩
  exact bc_d (fun _ => bc_d (fun _ => k258 true fun h => by cases h) (fun _ => hend)) (fun _ => hend)
end
set_option maxRecDepth 100000 in
theorem lifted_Prices (os : Os) (started : os.Started) (H : Type) (enc : TypeId × Value → H) :
    ReturnsInHanded {} Tryz.checked os N_law07_QueuePrices .any (Rows.queuePricesSpec.pre6 enc Tryz.prog Tryz.f4 Rows.queuePricesRow.domain false) (Rows.queuePricesSpec.post enc Tryz.prog Tryz.f4 false true false false) := by
  refine returnsInHanded_of_change (C := Tryz.checked) Tryz.own started (by kernel_rfl) Tryz.func4
    (ChangeSpec.witness6 (enc := enc) (C := Tryz.checked) false ⟨#[], #[.agg #[.slice none 0 0, .int .i64 0], .slice none 0 0, .agg #[.int .i64 0, .slice none 0 0]], []⟩ 8 (by kernel_rfl) (by kernel_rfl) (by kernel_rfl) (by kernel_rfl)) ?_
  intro W base args ds gs before hval0 hW _ _
  have hval : ∀ (j : Nat) t v, Tryz.f4.params[j]? = some t → args[j]? = some v → Value.okWide Tryz.prog W .any base t v := hval0
  have hW' := hW
  obtain ⟨p, q, hA0, hV, rfl, hfz, hnd⟩ := hW
  have hA : DataW.TrodAll enc Tryz.prog W 0 (fun _ => true) true Tryz.f4.params.toList args.toList ds p := hA0
  have hA1 := hA
  rw [Tryz.params4] at hA hval
  obtain ⟨v0, v1, v2, d0, d1, d2, p0, p1, p2, rfl, rfl, rfl, h0, h1, h2⟩ := trodAll_three hA
  obtain ⟨rfl, rfl⟩ := trodVars_none hV
  obtain ⟨r, w, B, rfl, hr⟩ := open_evening (hval 0 24 v0 rfl rfl) h0
  obtain ⟨l, ws, G, rfl, hl, hw⟩ := open_groups (hval 1 25 v1 rfl rfl) h1
  obtain ⟨ri, ps, xs, rfl, hps⟩ := open_prices (hval 2 38 v2 rfl rfl) h2
  simp only [List.append_nil] at hW' hA1
  exact law_shut Tryz.laidOut (by kernel_rfl) rfl Tryz.underlying4 rfl rfl hW' hA1 (law_Prices ⟨hr, hl, hw⟩ hps)
theorem queuePrices_holds : Rows.QueuePricesSaid :=
  OpenClaim.holds_of_wide N_law07_QueuePrices Tryz.f4 rfl rfl rfl rfl rfl rfl rfl ⟨rfl, rfl, rfl, rfl, rfl⟩ rfl rfl rfl rfl rfl (by kernel_rfl) Tryz.func4 (by kernel_rfl)
    (of_decide_eq_true (by kernel_rfl)) (by unfold Func.isWrapper; rw [if_neg (of_decide_eq_false (by kernel_rfl))]; exact ⟨rfl, rfl⟩)
    (fun os started H enc _ => lifted_Prices os started H enc)
#print axioms queuePrices_holds
end Go.Proofs.YtgcefaikdplbkaaGreat
