/- For all inputs the law QueueAgrees returns true, and what came in reads as it did. -/
import Derived.Test.YtgcefaikdplbkaaKa1
import Derived.Test.YtgcefaikdplbkaaSb1
import Derived.Test.YtgcefaikdplbkaaQL11
namespace Go.Proofs.Ytgcefaikdplbkaa
open Go.RowKit Go.ChangeShapes Go.WideShapes Go.Deep Go.Joins

theorem pd_in {w : Int} {B : List BthG} {G : List Grp} (hv : Val w B G) {V : List Vis} (hV : ∀ v ∈ V, 0 ≤ v.1 ∧ v.1 < G.length) {r : Int} (r0 : 0 ≤ r) (r1 : r < B.length) : 0 ≤ pd B G V r ∧ pd B G V r ≤ 4000 * V.length := by
  have h := sumI_le (xs := V.map fun v => if v.on = true ∧ v.ride = r then (bd B r).price * (gd G v.1).size else 0) (m := 4000) fun x hx => by
    obtain ⟨v, hv', rfl⟩ := List.mem_map.1 hx
    have hp := (hv.bt r0 r1).2.1
    have hg := hV v hv'
    have hs := (hv.gr hg.1 hg.2).2.1
    split
    · refine ⟨Int.mul_nonneg hp.1 (by omega), ?_⟩
      exact Int.le_trans (Int.mul_le_mul hp.2 hs.2 (by omega) (by omega)) (by omega)
    · omega
  rw [List.length_map] at h
  exact h
theorem sumI_takeG {xs : List Int} {k : Nat} (h : k < xs.length) : sumI (xs.take (k + 1)) = sumI (xs.take k) + gt xs k := by
  rw [List.take_succ_eq_append_getElem h, sumI_app, gt_nat h]
  simp [sumI]
/-- what is paid at each ride, for the visits so far -/
def pds (B : List BthG) (G : List Grp) (V : List Vis) : List Int := (List.range B.length).map fun r : Nat => pd B G V r
theorem pds_len {B : List BthG} {G : List Grp} {V : List Vis} : (pds B G V).length = B.length := by simp [pds]
theorem pds_gt {B : List BthG} {G : List Grp} {V : List Vis} {r : Int} (r0 : 0 ≤ r) (r1 : r < B.length) : gt (pds B G V) r = pd B G V r := by
  unfold pds
  rw [gt_range r0 r1]
  congr 1
  omega
theorem pds_nil {B : List BthG} {G : List Grp} : pds B G [] = List.replicate B.length 0 := by
  apply List.ext_getElem <;> simp [pds, pd, sumI]
theorem pds_no {B : List BthG} {G : List Grp} {V : List Vis} {v : Vis} (h : v.on = false) : pds B G (V ++ [v]) = pds B G V := by
  unfold pds
  congr 1
  funext r
  rw [pd_snoc, if_neg (by rw [h]; simp), Int.add_zero]
theorem pds_yes {B : List BthG} {G : List Grp} {V : List Vis} {v : Vis} (h : v.on = true) (r0 : 0 ≤ v.ride) (r1 : v.ride < B.length) : pds B G (V ++ [v]) = (pds B G V).set v.ride.toNat (gt (pds B G V) v.ride + (bd B v.ride).price * (gd G v.1).size) := by
  rw [pds_gt r0 r1]
  unfold pds
  refine range_upd (k := v.ride.toNat) (by omega) (fun i hi hne => ?_) ?_
  · rw [pd_snoc, if_neg (by intro h'; have := h'.2; omega), Int.add_zero]
  · have e : ((v.ride.toNat : Nat) : Int) = v.ride := by omega
    rw [e, pd_snoc, if_pos ⟨h, rfl⟩]
set_option maxRecDepth 20000 in
theorem law_Agrees {σ : Hp} {w : Int} {r l : SL} {B : List BthG} {ws : Nat → SL} {G : List Grp} (he : EvR σ r B l ws G) : FCalls Try.prog N_law07_QueueAgrees #[.agg #[r.v, .int .i64 w], l.v] σ fun v _ => v = .bool true := by
  refine M_law07_QueueAgrees_ok _ _ _ _ _ _ _ _ _ ?_
  unfold M_law07_QueueAgrees
  refine clB M_law07_Far_enter (c_Far he) (bc_b (fun _ => l_works (rt_of rfl)) (fun hf => ?_))
  obtain ⟨f1, f2, f3⟩ := far_no hf
  have fw : ∀ k, (h : k < G.length) → G[k].wants.length ≤ 4294967296 := fun k hk => by have := f3 k hk; omega
  obtain ⟨V, tk, hd, hD, hpl⟩ := lawMoney_ex w B G
  refine cl_of M_law07_play_enter ((hpl σ r l ws he).1 (by omega) (by omega) fw) ?_
  rintro v σ8 ⟨s, rfl, hs, hrd⟩
  refine ⟨_, _, _, _, rfl, ?_⟩
  have he8 := he.sub hs
  refine cl_of M_ref07_Copy_enter (c_Copy he8 (by omega)) ?_
  rintro v σ12 ⟨r', rfl, ho⟩
  refine ⟨_, _, _, _, rfl, ?_⟩
  have he12 := he8.sub ho.sub
  refine cl_of M_ref07_CopyGroups_enter (c_CopyGroups he12 (by omega) fw) ?_
  rintro v σ16 ⟨l', ws', rfl, hs16, hl', hw'⟩
  refine ⟨_, _, _, rfl, ?_⟩
  have he' : EvR σ16 r' B l' ws' G := ⟨ho.rd.sub hs16, hl', hw'⟩
  refine cl_of M_queue_Takes_enter ((hpl σ16 r' l' ws' he').2.1) ?_
  rintro v σ19 ⟨st, rfl, hot⟩
  refine ⟨_, _, _, _, rfl, ?_⟩
  have he19 := (he12.sub hs16).sub hot.sub
  refine cl_of M_ref07_Copy_enter (c_Copy he19 (by omega)) ?_
  rintro v σ23 ⟨r2, rfl, ho2⟩
  refine ⟨_, _, _, _, rfl, ?_⟩
  have he23 := he19.sub ho2.sub
  refine cl_of M_ref07_CopyGroups_enter (c_CopyGroups he23 (by omega) fw) ?_
  rintro v σ27 ⟨l2, ws2, rfl, hs27, hl2, hw2⟩
  refine ⟨_, _, _, rfl, ?_⟩
  have he2 : EvR σ27 r2 B l2 ws2 G := ⟨ho2.rd.sub hs27, hl2, hw2⟩
  refine cl_of M_queue_Held_enter ((hpl σ27 r2 l2 ws2 he2).2.2) ?_
  rintro v σ30 ⟨sd, rfl, hod⟩
  refine ⟨_, _, _, _, rfl, bc_b (fun _ => bc_d (fun _ => bc_d (fun _ => l_works (rt_of rfl)) (fun h => absurd rfl h)) (fun h => absurd rfl h)) (fun hc => ?_)⟩
  have hc : chkQ w B G = 0 := by simpa using hc
  have hv := chkQ_val hc
  rw [vsL_ok hc] at hrd
  rw [ofL_ok hc] at hot hod
  obtain ⟨⟨hm, D⟩, M⟩ := hD hv
  have he30 := (he23.sub hs27).sub hod.sub
  have hs2 := (ho2.sub.trans hs27).trans hod.sub
  have hrd := hrd.sub (((ho.sub.trans hs16).trans hot.sub).trans hs2)
  have hrt := hot.rd.sub hs2
  have hrh := hod.rd
  clear hot hod he' he2 hpl hD
  have hrn := he30.lenR
  have hln := he30.lenL
  have hsn : s.n = V.length := hrd.1
  have htn : st.n = tk.length := hrt.lenI
  have hdn : sd.n = hd.length := hrh.lenI
  have hlt := M.lt
  have hlh := M.lh
  have hVl := D.len
  have hvg : ∀ v ∈ V, 0 ≤ v.1 ∧ v.1 < G.length := fun v hv => (D.vi v hv).1
  have hGm : (G.map Grp.tokens).length = G.length := List.length_map ..
  have hgt : ∀ k : Nat, k < G.length → gt (G.map Grp.tokens) k = (gd G k).tokens := fun k hk => by simp [gt, gd, List.getD, hk]
  have bT : ∀ k, 0 ≤ sumI ((G.map Grp.tokens).take k) ∧ sumI ((G.map Grp.tokens).take k) ≤ 10000 * (((G.map Grp.tokens).take k).length : Nat) := fun k => sumI_le fun x hx => by
    obtain ⟨g, hg, rfl⟩ := List.mem_map.1 (List.mem_of_mem_take hx)
    exact (hv.g g hg).2.2.1
  have bH : ∀ k, 0 ≤ sumI (hd.take k) ∧ sumI (hd.take k) ≤ 10000 * ((hd.take k).length : Nat) := fun k => sumI_le fun x hx => by
    obtain ⟨i, hi, rfl⟩ := List.getElem_of_mem (List.mem_of_mem_take hx)
    have := M.h i (by omega) (by omega)
    rwa [gt_nat hi] at this
  have bK : ∀ k, 0 ≤ sumI (tk.take k) ∧ sumI (tk.take k) ≤ 10000000000 * ((tk.take k).length : Nat) := fun k => sumI_le fun x hx => by
    obtain ⟨i, hi, rfl⟩ := List.getElem_of_mem (List.mem_of_mem_take hx)
    have := M.t i (by omega) (by omega)
    rwa [gt_nat hi] at this
  have hms := M.s
  refine cut_intro fun J38 h38 => ?_
  have k38 : J38 σ30 := by
    rw [h38]
    intro _
    refine cut_intro fun J41 h41 => ?_
    have k41 : J41 (sumI (G.map Grp.tokens) - sumI hd) σ30 := by
      rw [h41]
      intro _
      refine ⟨by omega, Int.le_refl _, by omega, ?_⟩
      refine cut_intro fun J45 h45 => ?_
      have k45 : J45 (pds B G V) σ30 := by
        rw [h45]
        intro _
        refine cut_intro fun J49 h49 => ?_
        have k49 : J49 0 σ30 := by
          rw [h49]
          intro _
          refine bc_d (fun _ => ?_) (fun h => absurd rfl h)
          intro A51 l51 c51 σ52 ho
          have e : pds B G V = tk := by
            apply List.ext_getElem
            · rw [pds_len, hlt]
            · intro i h1 h2
              rw [← gt_nat h1, ← gt_nat h2, M.p i (by omega) (by omega), pds_gt (by omega) (by omega)]
          rw [e] at ho
          exact l_same ho.rd (hrt.sub ho.sub) (by omega) (bc_t (l_works (rt_of rfl)))
        have h0 := bT (G.map Grp.tokens).length
        have h1 := bH hd.length
        rw [List.take_length] at h0 h1
        refine ⟨fun m n i τ => ∃ k : Nat, m = tk.length - k ∧ n = sumI (G.map Grp.tokens) - sumI hd - sumI (tk.take k) ∧ i = k ∧ k ≤ tk.length ∧ τ = σ30, ⟨_, 0, rfl, by simp [sumI], rfl, by omega, rfl⟩, ?_⟩
        rintro m n i τ ⟨k, rfl, rfl, rfl, hk, rfl⟩ _
        refine bc_d (fun hlt' => ?_) (fun _ => ?_)
        · have hkl : k < tk.length := by omega
          have b1 := bK k
          have b2 := bK (k + 1)
          have e := sumI_takeG hkl
          have l1 : (tk.take k).length ≤ 10 := by rw [List.length_take]; omega
          have l2 : (tk.take (k + 1)).length ≤ 10 := by rw [List.length_take]; omega
          refine gixg hrt (by omega) (by omega) (wk_i (by omega) (wk_i (by omega) (bk_of _ (by omega) ⟨k + 1, rfl, ?_, by omega, by omega, rfl⟩)))
          omega
        · have : k = tk.length := by omega
          subst this
          rw [List.take_length]
          have e0 : sumI (G.map Grp.tokens) - sumI hd - sumI tk = 0 := by omega
          rw [e0]
          exact k49
      have er : ((r.n : Nat) : Int).toNat = B.length := by omega
      have ez : (List.replicate ((r.n : Nat) : Int).toNat 0 : List Int) = pds B G (V.take 0) := by
        rw [er, List.take_zero, pds_nil]
      rw [ez]
      refine ⟨fun m i xs τ => ∃ t : Nat, m = V.length - t ∧ i = t ∧ xs = pds B G (V.take t) ∧ t ≤ V.length ∧ τ = σ30, ⟨_, 0, rfl, rfl, rfl, by omega, rfl⟩, ?_⟩
      rintro m i xs τ ⟨t, rfl, rfl, rfl, ht, rfl⟩ _
      refine bc_d (fun hlt2 => ?_) (fun hlt2 => ?_)
      · have htl : t < V.length := by omega
        refine cut_intro fun J80 h80 => ?_
        have k80 : J80 (pds B G (V.take (t + 1))) τ := by
          rw [h80]
          intro _
          exact wk_i (by omega) (bk_of _ (by omega) ⟨t + 1, rfl, by omega, rfl, by omega, rfl⟩)
        have hmem := List.getElem_mem htl
        have eT : V.take (t + 1) = V.take t ++ [V[t]] := List.take_succ_eq_append_getElem htl
        rw [eT] at k80
        refine hrd.vix htl rfl fun b o c0 c1 c2 c3 c4 c5 => ldI_of c0 (ldI_of c1 (ldI_of c2 (ldB_of c3 (ldI_of c4 (ldI_of c5 ?_)))))
        have bP : ∀ r : Int, 0 ≤ r → r < B.length → 0 ≤ pd B G (V.take t) r ∧ pd B G (V.take t) r ≤ 4000 * ((V.take t).length : Nat) := fun r r0 r1 => pd_in hv (fun v hv => hvg v (List.mem_of_mem_take hv)) r0 r1
        have lT : (V.take t).length ≤ V.length := by rw [List.length_take]; omega
        clear hlt2 eT
        generalize V[t] = v at *
        obtain ⟨⟨g0, g1⟩, ⟨w0, w1⟩, hr, _⟩ : (0 ≤ v.1 ∧ v.1 < G.length) ∧ (0 ≤ v.2.1 ∧ v.2.1 < (gd G v.1).wants.length) ∧ v.2.2.1 = gt (gd G v.1).wants v.2.1 ∧ True := by
          obtain ⟨a, b, c, _⟩ := D.vi v hmem
          exact ⟨a, b, c, trivial⟩
        have hrr : 0 ≤ v.2.2.1 ∧ v.2.2.1 < B.length := by rw [hr]; exact hv.want w0 w1
        have hbt := (hv.bt hrr.1 hrr.2).2.1
        have hgs := (hv.gr g0 g1).2.1
        have hpm : 0 ≤ (bd B v.2.2.1).price * (gd G v.1).size ∧ (bd B v.2.2.1).price * (gd G v.1).size ≤ 4000 := by
          refine ⟨Int.mul_nonneg hbt.1 (by omega), ?_⟩
          exact Int.le_trans (Int.mul_le_mul hbt.2 hgs.2 (by omega) (by omega)) (by omega)
        have hb := bP v.2.2.1 hrr.1 hrr.2
        refine cut_intro fun J95 h95 => ?_
        have k95 : J95 τ := by
          rw [h95]
          intro _
          refine bc_b (fun eon => ?_) (fun eon => ?_)
          · have hy := pds_yes (B := B) (G := G) (V := V.take t) (v := v) eon hrr.1 hrr.2
            rw [hy] at k80
            have e1 : gt (pds B G (V.take t)) v.2.2.1 = pd B G (V.take t) v.2.2.1 := pds_gt hrr.1 hrr.2
            have hl : v.2.2.1 < ((pds B G (V.take t)).length : Int) := by rw [pds_len]; exact hrr.2
            refine ⟨hrr.1, hl, lat_I hrr.1 hl ?_⟩
            refine he30.rix hrr.1 hrr.2 fun b a _ d1 _ _ _ => ldI_of d1 ?_
            refine he30.gix g0 g1 fun b a _ d1 _ _ _ => ldI_of d1 ?_
            refine wk_i (by omega) (wk_i (by omega) ⟨hrr.1, hl, lat_I hrr.1 hl ?_⟩)
            exact k80
          · rw [pds_no (v := v) eon] at k80
            exact k80
        refine cut_intro fun J108 h108 => ?_
        have k108 : J108 false τ := by
          rw [h108]
          intro _
          exact k95
        have hll : (pds B G (V.take t)).length = B.length := pds_len
        refine bc_d (fun h => absurd h (by omega)) (fun _ => ?_)
        refine bc_d (fun h => absurd h (by omega)) (fun _ => ?_)
        refine bc_d (fun h => absurd h (by omega)) (fun _ => ?_)
        rw [decide_eq_false (by omega)]
        exact k108
      · have : t = V.length := by omega
        subst this
        rw [List.take_length]
        exact k45
    refine ⟨fun m n i τ => ∃ k : Nat, m = G.length - k ∧ n = sumI ((G.map Grp.tokens).take k) - sumI (hd.take k) ∧ i = k ∧ k ≤ G.length ∧ τ = σ30, ⟨_, 0, rfl, by simp [sumI], rfl, by omega, rfl⟩, ?_⟩
    rintro m n i τ ⟨k, rfl, rfl, rfl, hk, rfl⟩ _
    refine bc_d (fun hlt' => ?_) (fun _ => ?_)
    · have hkl : k < G.length := by omega
      have b1 := bT k
      have b2 := bH k
      have b3 := bT (k + 1)
      have b4 := bH (k + 1)
      have e1 := sumI_takeG (xs := G.map Grp.tokens) (k := k) (by omega)
      have e2 := sumI_takeG (xs := hd) (k := k) (by omega)
      rw [hgt k hkl] at e1
      have l1 : ((G.map Grp.tokens).take k).length ≤ 100 := by rw [List.length_take]; omega
      have l2 : ((G.map Grp.tokens).take (k + 1)).length ≤ 100 := by rw [List.length_take]; omega
      have l3 : (hd.take k).length ≤ 100 := by rw [List.length_take]; omega
      have l4 : (hd.take (k + 1)).length ≤ 100 := by rw [List.length_take]; omega
      have hh := M.h k (by omega) (by omega)
      refine he30.group hkl fun b a _ _ d2 _ _ => ldI_of d2 ?_
      have eg : G[k].tokens = (gd G k).tokens := by simp [gd, List.getD, hkl]
      rw [eg]
      refine gixg hrh (by omega) (by omega) (wk_i (by omega) (wk_i (by omega) ?_))
      refine gixg hrh (by omega) (by omega) (bc_d (fun h => absurd h (by omega)) (fun _ => wk_i (by omega) (bk_of _ (by omega) ⟨k + 1, rfl, ?_, by omega, by omega, rfl⟩)))
      omega
    · have : k = G.length := by omega
      subst this
      have e1 : (G.map Grp.tokens).take G.length = G.map Grp.tokens := List.take_of_length_le (by omega)
      have e2 : hd.take G.length = hd := List.take_of_length_le (by omega)
      rw [e1, e2]
      exact k41
  refine cut_intro fun J132 h132 => ?_
  have k132 : J132 false σ30 := by
    rw [h132]
    intro _
    exact k38
  refine bc_b (fun h => ?_) (fun _ => ?_)
  · exfalso
    have h : ¬ chkQ w B G = 0 := by simpa using h
    exact h hc
  refine bc_b (fun h => ?_) (fun _ => ?_)
  · exfalso
    have h : ¬ chkQ w B G = 0 := by simpa using h
    exact h hc
  refine bc_b (fun h => ?_) (fun _ => ?_)
  · exfalso
    have h : ¬ ((st.n : Nat) : Int) = ((r.n : Nat) : Int) := by simpa using h
    omega
  have e : (!decide ((sd.n : Int) = (l.n : Int))) = false := by rw [decide_eq_true (by omega)]; rfl
  rw [e]
  exact k132
set_option maxRecDepth 100000 in
theorem lifted_Agrees (os : Os) (started : os.Started) (H : Type) (enc : TypeId × Value → H) :
    ReturnsInHanded {} Try.checked os N_law07_QueueAgrees .any (Rows.queueAgreesSpec.pre6 enc Try.prog Try.f11 Rows.queueAgreesRow.domain false) (Rows.queueAgreesSpec.post enc Try.prog Try.f11 false true false false) := by
  refine returnsInHanded_of_change (C := Try.checked) Try.own started (by kernel_rfl) Try.func11
    (ChangeSpec.witness6 (enc := enc) (C := Try.checked) false ⟨#[], #[.agg #[.slice none 0 0, .int .i64 0], .slice none 0 0], []⟩ 8 (by kernel_rfl) (by kernel_rfl) (by kernel_rfl) (by kernel_rfl)) ?_
  intro W base args ds gs before hval0 hW _ _
  have hval : ∀ (j : Nat) t v, Try.f11.params[j]? = some t → args[j]? = some v → Value.okWide Try.prog W .any base t v := hval0
  have hW' := hW
  obtain ⟨p, q, hA0, hV, rfl, hfz, hnd⟩ := hW
  have hA : DataW.TrodAll enc Try.prog W 0 (fun _ => true) true Try.f11.params.toList args.toList ds p := hA0
  have hA1 := hA
  rw [Try.params11] at hA hval
  obtain ⟨v0, v1, d0, d1, p0, p1, rfl, rfl, rfl, h0, h1⟩ := trodAll_two hA
  obtain ⟨rfl, rfl⟩ := trodVars_none hV
  obtain ⟨r, w, B, rfl, hr⟩ := open_evening (hval 0 24 v0 rfl rfl) h0
  obtain ⟨l, ws, G, rfl, hl, hw⟩ := open_groups (hval 1 25 v1 rfl rfl) h1
  simp only [List.append_nil] at hW' hA1
  exact law_shut Try.laidOut (by kernel_rfl) rfl Try.underlying4 rfl rfl hW' hA1 (law_Agrees ⟨hr, hl, hw⟩)
theorem queueAgrees_holds : Rows.QueueAgreesSaid :=
  OpenClaim.holds_of_wide N_law07_QueueAgrees Try.f11 rfl rfl rfl rfl rfl rfl rfl ⟨rfl, rfl, rfl, rfl, rfl⟩ rfl rfl rfl rfl rfl (by kernel_rfl) Try.func11 (by kernel_rfl)
    (of_decide_eq_true (by kernel_rfl)) (by unfold Func.isWrapper; rw [if_neg (of_decide_eq_false (by kernel_rfl))]; exact ⟨rfl, rfl⟩)
    (fun os started H enc _ => lifted_Agrees os started H enc)
#print axioms queueAgrees_holds
end Go.Proofs.Ytgcefaikdplbkaa
