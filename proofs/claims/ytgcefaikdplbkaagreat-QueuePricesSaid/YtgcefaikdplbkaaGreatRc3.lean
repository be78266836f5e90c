/- Contracts of layer 7: Price, of the program and of the reference. -/
import Derived.Test.YtgcefaikdplbkaaGreatRc2
namespace Go.Proofs.YtgcefaikdplbkaaGreat
open Go.RowKit

def okP (x : Int) : Bool := decide (0 ≤ x ∧ x ≤ 100)
def okPs (ps : List Int) : Bool := decide (1 ≤ ps.length ∧ ps.length ≤ 20) && (List.range ps.length).all fun k => okP (gt ps k)
/-- the error of Price -/
def prC (c : Int) (n : Nat) (i : Int) (ps : List Int) : Int := if rideC c n i = 0 then (if okPs ps = true then 0 else 1) else rideC c n i
theorem prC_ride {c : Int} {n : Nat} {i : Int} {ps : List Int} (h : ¬ rideC c n i = 0) : prC c n i ps = rideC c n i := if_neg h
theorem prC_no {c : Int} {n : Nat} {i : Int} {ps : List Int} (h : rideC c n i = 0) (h' : okPs ps = false) : prC c n i ps = 1 := by rw [prC, if_pos h, if_neg (by rw [h']; simp)]
theorem prC_yes {c : Int} {n : Nat} {i : Int} {ps : List Int} (h : rideC c n i = 0) (h' : okPs ps = true) : prC c n i ps = 0 := by rw [prC, if_pos h, if_pos h']
theorem prC_ok {c : Int} {n : Nat} {i : Int} {ps : List Int} (h : prC c n i ps = 0) : rideC c n i = 0 ∧ okPs ps = true := by
  by_cases h1 : rideC c n i = 0
  · by_cases h2 : okPs ps = true
    · exact ⟨h1, h2⟩
    · rw [prC_no h1 (by simpa using h2)] at h
      omega
  · rw [prC_ride h1] at h
    exact absurd h h1
theorem okPs_of {ps : List Int} (h : okPs ps = true) : (1 ≤ ps.length ∧ ps.length ≤ 20) ∧ ∀ p ∈ ps, 0 ≤ p ∧ p ≤ 100 := by
  unfold okPs at h
  rw [Bool.and_eq_true, decide_eq_true_eq] at h
  refine ⟨h.1, fun p hp => ?_⟩
  obtain ⟨i, hi, rfl⟩ := List.getElem_of_mem hp
  have := all_range h.2 hi
  rw [gt_nat hi] at this
  exact of_decide_eq_true this
/-- what Price returns -/
def PrR (σ : Hp) (c : Int) (T : Int → Int) (ps : List Int) : Value → Hp → Prop := fun v σ' => ∃ a m, v = .tuple #[.int .i64 a, .int .i64 m, .int .i64 c] ∧ Hp.Sub σ σ' ∧ (c = 0 → Best T ps a m) ∧ (¬ c = 0 → a = 0 ∧ m = 0)
theorem PrR.err {σ : Hp} {c e : Int} {T : Int → Int} {ps : List Int} (h : ¬ e = 0) (he : c = e) : PrR σ c T ps (.tuple #[.int .i64 0, .int .i64 0, .int .i64 e]) σ := ⟨0, 0, by rw [he], Hp.Sub.refl _, fun h' => absurd (he ▸ h') h, fun _ => ⟨rfl, rfl⟩⟩
theorem isort_mem {xs : List Int} {x : Int} : x ∈ isort xs ↔ x ∈ xs := (sortB_perm _ xs).mem_iff
theorem isort_le {xs : List Int} : (isort xs).Pairwise (· ≤ ·) := by
  have h1 : (isort xs).Pairwise fun a b => decide (a ≤ b) = true := sortB_sorted (le := fun x y : Int => decide (x ≤ y)) (fun a b c h1 h2 => decide_eq_true (Int.le_trans (of_decide_eq_true h1) (of_decide_eq_true h2))) (fun a b => by
    rcases Int.le_total a b with h | h
    · exact .inl (decide_eq_true h)
    · exact .inr (decide_eq_true h)) xs
  exact h1.imp fun h => of_decide_eq_true h
theorem sumI_in {tk : List Int} (h8 : tk.length ≤ 8) (hb : ∀ r : Int, 0 ≤ r → r < tk.length → 0 ≤ gt tk r ∧ gt tk r ≤ 10000000000) (k : Nat) : 0 ≤ sumI (tk.take k) ∧ sumI (tk.take k) ≤ 80000000000 := by
  have h := sumI_le (xs := tk.take k) (m := 10000000000) fun x hx => by
    obtain ⟨i, hi, rfl⟩ := List.getElem_of_mem (List.mem_of_mem_take hx)
    have := hb i (by omega) (by omega)
    rwa [gt_nat hi] at this
  rw [List.length_take] at h
  omega
theorem sumI_takeP {xs : List Int} {k : Nat} (h : k < xs.length) : sumI (xs.take (k + 1)) = sumI (xs.take k) + gt xs k := by
  rw [List.take_succ_eq_append_getElem h, sumI_app, gt_nat h]
  simp [sumI]
section
variable {σ : Hp} {w : Int} {r l : SL} {B : List BthG} {ws : Nat → SL} {G : List Grp} {T : Int → Int} {i : Int} {ps : List Int} {pl : SL}
theorem c_Price_1 {p : Int} : FCalls Tryz.prog N_queue_Price_1 #[.int .i64 p] σ fun v σ' => v = .bool (!okP p) ∧ σ' = σ := by
  refine M_queue_Price_1_ok _ _ _ ?_
  unfold M_queue_Price_1
  exact l_in (rt_of ⟨rfl, rfl⟩)
set_option maxRecDepth 20000 in
theorem c_Price (he : EvR σ r B l ws G) (hps : RdS [.int .i64] σ pl.A pl.n ps) (hpl : ps.length ≤ 4294967296) (hT : ∀ p, Val w (atP B i p) G → PlT w (atP B i p) G (T p)) :
    FCalls Tryz.prog N_queue_Price #[.agg #[r.v, .int .i64 w], l.v, .int .i64 i, pl.v] σ (PrR σ (prC (chkQ w B G) B.length i ps) T ps) := by
  refine M_queue_Price_ok _ _ _ _ _ _ _ _ _ _ _ _ _ ?_
  unfold M_queue_Price
  have hpn : pl.n = ps.length := hps.lenI
  refine clI M_queue_checkRide_enter (c_checkRide he) (bc_nd (fun h => rt_of (PrR.err h (prC_ride h))) (fun hr => ?_))
  obtain ⟨hc, i0, i1⟩ := rideC_ok hr
  have hv := chkQ_val hc
  have hm := hv.m
  refine cut_intro fun J6 h6 => ?_
  have k6 : okPs ps = true → J6 0 σ := by
    intro hok
    obtain ⟨hpl2, hpin⟩ := okPs_of hok
    rw [h6]
    intro _
    refine cl_of M_slices_Clone_int_enter (c_CloneI hps hpl) ?_
    rintro v σ9 ⟨s, rfl, ho⟩
    refine ⟨_, _, _, rfl, cl_of M_slices_Sort_int_enter (sortI_holds σ σ9 s.A s.n s.c ps ho hpl) ?_⟩
    rintro v σ12 ⟨_, ho⟩
    have hxl : (isort ps).length = ps.length := sortB_length ..
    have hxs := isort_le (xs := ps)
    have hmem := fun x => isort_mem (xs := ps) (x := x)
    have he12 := he.sub ho.sub
    have hs12 := ho.sub
    have hrd := ho.RdI
    clear ho
    generalize isort ps = xs at *
    have hsn : s.n = xs.length := hrd.lenI
    refine cut_intro fun J15 h15 => ?_
    refine ⟨fun m pr tk j τ => ∃ k : Nat, m = xs.length - k ∧ j = k ∧ k ≤ xs.length ∧ Hp.Sub σ12 τ ∧ (k = 0 → tk = -1) ∧ (0 < k → Best T (xs.take k) pr tk), ⟨_, 0, rfl, rfl, by omega, Hp.Sub.refl _, fun _ => rfl, fun h => absurd h (by omega)⟩, ?_⟩
    rintro m pr tk j τ ⟨k, rfl, rfl, hk, hs, hz, hb⟩ _
    refine bc_d (fun hlt => ?_) (fun hge => ?_)
    · have hkl : k < xs.length := by omega
      have hpk : 0 ≤ xs[k] ∧ xs[k] ≤ 100 := hpin _ ((hmem _).1 (List.getElem_mem hkl))
      have hvp := hv.atP i0 i1 hpk
      have hTk := (hT _ hvp).t
      have eT : xs.take (k + 1) = xs.take k ++ [xs[k]] := List.take_succ_eq_append_getElem hkl
      have hsort : ∀ x ∈ xs.take k, x ≤ xs[k] := fun x hx => by
        obtain ⟨a, ha, rfl⟩ := List.getElem_of_mem hx
        rw [List.length_take] at ha
        rw [List.getElem_take]
        exact List.pairwise_iff_getElem.1 hxs a k (by omega) hkl (by omega)
      refine cut_intro fun J27 h27 => ?_
      have k27 : ∀ pr' tk' τ', Hp.Sub σ12 τ' → Best T (xs.take (k + 1)) pr' tk' → J27 pr' tk' τ' := by
        intro pr' tk' τ' a b
        rw [h27]
        intro _
        exact wk_i (by omega) (bk_of _ (by omega) ⟨k + 1, rfl, by omega, by omega, a, fun h => absurd h (by omega), fun _ => b⟩)
      rw [eT] at k27
      refine gixg (hrd.sub hs) (by omega) (by omega) ?_
      rw [gt_nat hkl]
      generalize xs[k] = p at *
      obtain ⟨ts, eTs, htl, ht8, htb, ⟨N, hst, hNt, hplay⟩, _, _⟩ := hTk
      have hbT := sumI_in ht8 htb ts.length
      rw [List.take_length, ← eTs] at hbT
      refine cut_intro fun J38 h38 => ?_
      have k38 : ∀ b τ' rw', Hp.Sub σ12 τ' → τ' b = some (.cells #[.int .i64 p] 3 (0, 0), rw') → J38 (some ⟨b, 0, none⟩) (T p) τ' := by
        intro b τ' rw' a hcell
        rw [h38]
        intro _
        rcases Nat.eq_zero_or_pos k with e0 | e0
        · have e1 := hz e0
          refine bc_d (fun _ => dr_i (bldI hcell rfl (k27 _ _ _ a ?_))) (fun h => absurd (show tk < T p by omega) h)
          have e2 : xs.take k = [] := by rw [e0]; rfl
          rw [e2]
          exact Best.one
        · have hbk := hb e0
          refine bc_d (fun h => dr_i (bldI hcell rfl (k27 _ _ _ a (hbk.take (.inl h))))) (fun h => k27 _ _ _ a (hbk.keep ?_))
          have := hsort pr hbk.i
          omega
      intro b44 n44
      have hs44 := Hp.Sub.ins (.cells #[.int .i64 p] 3 (0, 0)) n44
      have hc44 : (τ.ins b44 (.cells #[.int .i64 p] 3 (0, 0))) b44 = some (.cells #[.int .i64 p] 3 (0, 0), true) := Hp.ins_same ..
      have e44 : τ.ins b44 (.cells #[.int .i64 p] 3) = τ.ins b44 (.cells #[.int .i64 p] 3 (0, 0)) := rfl
      rw [e44]
      generalize τ.ins b44 (.cells #[.int .i64 p] 3 (0, 0)) = σ45 at *
      have he45 := he12.sub (hs.trans hs44)
      refine cl_of M_queue_changed_enter (c_changedP he45.r (by omega) i0 i1 hc44) ?_
      rintro v σ47 ⟨r', rfl, ho'⟩
      refine ⟨_, _, _, _, rfl, ?_⟩
      have he47 : EvR σ47 r' (atP B i p) l ws G := ⟨ho'.rd, he45.l.sub ho'.sub, fun j hj => (he45.w j hj).sub ho'.sub⟩
      refine cl_of M_queue_play_enter (hplay σ47 r' l ws he47) ?_
      rintro _ σ51 ⟨W, σ1, rfl, hs1, hS, hn⟩
      have hS51 := hS.sub hn.sub
      have hs51 : Hp.Sub σ45 σ51 := ho'.sub.trans (hs1.trans hn.sub)
      obtain ⟨vv, hnb, _⟩ := hn.nblk
      refine ⟨_, rfl, dr_i (bldS hnb rfl ?_)⟩
      have hrl : W.r.n = N.rides.length := by rw [hS.r.1, ← hS.lr.trans hst.1.symm]; exact List.length_map ..
      have hNl : N.rides.length = ts.length := by rw [← hNt, List.length_map]
      refine ⟨fun m n q τ' => ∃ u : Nat, m = ts.length - u ∧ n = sumI (ts.take u) ∧ q = u ∧ u ≤ ts.length ∧ τ' = σ51, ⟨_, 0, rfl, rfl, rfl, by omega, rfl⟩, ?_⟩
      rintro m n q τ' ⟨u, rfl, rfl, rfl, hu, rfl⟩ _
      refine bc_d (fun hlt2 => ?_) (fun hge2 => ?_)
      · have hul : u < ts.length := by omega
        have hun : ((u : Nat) : Int).toNat < N.rides.length := by omega
        have b1 := sumI_in ht8 htb u
        have b2 := sumI_in ht8 htb (u + 1)
        have e3 := sumI_takeP hul
        have b3 := htb u (by omega) (by omega)
        have e4 : (N.bo u).takes = gt ts u := by
          have hun' : u < N.rides.length := by omega
          subst hNt
          simp [gt, Ngt.bo, List.getD, hun']
        obtain ⟨o, q, hrb, _⟩ := hn.rblk hun
        refine hS51.rix hst (by omega) hun (dr_i (bldI hrb rfl (wk_i ?_ (wk_i (by omega) (bk_of (ts.length - (u + 1)) (by omega) ⟨u + 1, rfl, ?_, by omega, by omega, rfl⟩)))))
        · rw [e4]; omega
        · rw [e4, e3]
      · have : u = ts.length := by omega
        subst this
        rw [List.take_length, ← eTs]
        exact k38 b44 τ' true (hs.trans (hs44.trans hs51)) (hs51 _ _ hc44)
    · have : k = xs.length := by omega
      subst this
      rw [h15]
      intro _
      have hb := hb (by omega)
      rw [List.take_length] at hb
      exact rt_of ⟨pr, tk, by rw [prC_yes hr hok], hs12.trans hs, fun _ => hb.mem hmem, fun h => absurd (prC_yes hr hok) h⟩
  refine cut_intro fun J74 h74 => ?_
  have k74 : ∀ t, t = !okPs ps → J74 t σ := by
    intro t ht
    rw [h74]
    intro _
    subst ht
    refine bc_nb (fun h => rt_of (PrR.err (by decide) (prC_no hr h))) (fun h => k6 h)
  refine l_in (bc_nd (fun h => k74 _ ?_) (fun h => clB M_slices_ContainsFunc_int_enter (c_Contains_int (p := fun k => !okP (gt ps k)) hps hpl fun k hk => ?_) (k74 _ ?_)))
  · unfold okPs
    rw [decide_eq_false (by omega)]
    rfl
  · exact FFun.func M_queue_Price_1_enter c_Price_1
  · unfold okPs
    rw [any_not_all, decide_eq_true (by omega)]
    rfl
set_option maxRecDepth 20000 in
theorem c_refPrice (he : EvR σ r B l ws G) (hB : B.length ≤ 4294967296) (hG : G.length ≤ 4294967296) (hW : ∀ k, (h : k < G.length) → G[k].wants.length ≤ 4294967296) (hps : RdS [.int .i64] σ pl.A pl.n ps) (hpl : ps.length ≤ 4294967296) (hT : ∀ p, Val w (atP B i p) G → PlT w (atP B i p) G (T p)) :
    FCalls Tryz.prog N_ref07_Price #[.agg #[r.v, .int .i64 w], l.v, .int .i64 i, pl.v] σ (PrR σ (prC (chkQ w B G) B.length i ps) T ps) := by
  refine M_ref07_Price_ok _ _ _ _ _ _ _ _ _ _ _ _ _ ?_
  unfold M_ref07_Price
  have hpn : pl.n = ps.length := hps.lenI
  have hrn := he.lenR
  refine clI M_ref07_Check_enter (c_refCheck he hB hG hW) (bc_nd (fun h => ?_) (fun hc => ?_))
  · have e : rideC (chkQ w B G) B.length i = chkQ w B G := if_neg h
    exact rt_of (PrR.err h (by rw [prC_ride (by rw [e]; exact h), e]))
  have hv := chkQ_val hc
  have hm := hv.m
  have er : rideC (chkQ w B G) B.length i = if 0 ≤ i ∧ i ≤ (B.length : Int) - 1 then 0 else 1 := if_pos hc
  refine cut_intro fun J6 h6 => ?_
  have k6 : (0 ≤ i ∧ i ≤ (B.length : Int) - 1) → (1 ≤ ps.length ∧ ps.length ≤ 20) → J6 σ := by
    intro hi hpl2
    obtain ⟨i0, i1⟩ := hi
    have hr : rideC (chkQ w B G) B.length i = 0 := by rw [er, if_pos ⟨i0, i1⟩]
    have i1 : i < B.length := by omega
    rw [h6]
    intro _
    refine cut_intro fun J9 h9 => ?_
    have k9 : okPs ps = true → J9 σ := by
      intro hok
      obtain ⟨_, hpin⟩ := okPs_of hok
      rw [h9]
      intro _
      refine cut_intro fun J12 h12 => ?_
      refine ⟨fun m pr tk j τ => ∃ k : Nat, m = ps.length - k ∧ j = k ∧ k ≤ ps.length ∧ Hp.Sub σ τ ∧ (k = 0 → pr = -1) ∧ (0 < k → Best T (ps.take k) pr tk), ⟨_, 0, rfl, rfl, by omega, Hp.Sub.refl _, fun _ => rfl, fun h => absurd h (by omega)⟩, ?_⟩
      rintro m pr tk j τ ⟨k, rfl, rfl, hk, hs, hz, hb⟩ _
      refine bc_d (fun hlt => ?_) (fun hge => ?_)
      · have hkl : k < ps.length := by omega
        have hpk : 0 ≤ ps[k] ∧ ps[k] ≤ 100 := hpin _ (List.getElem_mem hkl)
        have hvp := hv.atP i0 i1 hpk
        have hTk := (hT _ hvp).t
        have eT : ps.take (k + 1) = ps.take k ++ [ps[k]] := List.take_succ_eq_append_getElem hkl
        refine cut_intro fun J24 h24 => ?_
        have k24 : ∀ pr' tk' τ', Hp.Sub σ τ' → Best T (ps.take (k + 1)) pr' tk' → J24 pr' tk' τ' := by
          intro pr' tk' τ' a b
          rw [h24]
          intro _
          exact wk_i (by omega) (bk_of _ (by omega) ⟨k + 1, rfl, by omega, by omega, a, fun h => absurd h (by omega), fun _ => b⟩)
        rw [eT] at k24
        have egt : gt ps k = ps[k] := gt_nat hkl
        have hprp : 0 < k → 0 ≤ pr := fun h => (hpin _ (List.mem_of_mem_take (hb h).i)).1
        generalize ps[k] = p at *
        have heτ := he.sub hs
        refine cl_of M_ref07_Copy_enter (c_Copy heτ hB) ?_
        rintro v σ31 ⟨r', rfl, ho⟩
        refine ⟨_, _, _, _, rfl, ?_⟩
        refine gixg ((hps.sub hs).sub ho.sub) (by omega) (by omega) ?_
        rw [egt]
        refine OwnSl.stB (j := 1) (b' := { bd B i with price := p }) ho (Hp.Sub.refl _) i0 i1 rfl fun σ38 σ39 h38 s38 => ?_
        have hs39 : Hp.Sub τ σ39 := h38.sub.trans s38
        have he39 : EvR σ39 r' (atP B i p) l ws G := ⟨h38.rd.sub s38, heτ.l.sub hs39, fun j hj => (heτ.w j hj).sub hs39⟩
        obtain ⟨ts, eTs, htl, ht8, htb, _, ⟨S, hSt, hplay⟩, _⟩ := hTk
        refine cl_of M_ref07_played_enter (hplay σ39 r' l ws he39) ?_
        rintro _ σ41 ⟨W, rfl, _, ht⟩
        obtain ⟨vv, hb41⟩ := ht.pblk
        have hird := ht.ird.2.2.1
        rw [hSt] at hird
        have hps41 := ((hps.sub hs).sub hs39).sub ht.sub
        have hs41 : Hp.Sub σ σ41 := (hs.trans hs39).trans ht.sub
        have htn : W.ta.n = ts.length := hird.lenI
        refine ⟨_, rfl, dr_i (bldS hb41 rfl ?_)⟩
        refine cut_intro fun J48 h48 => ?_
        have k48 : J48 (T p) σ41 := by
          rw [h48]
          intro _
          refine cut_intro fun J52 h52 => ?_
          have k52 : ∀ t : Bool, (t = true → Best T (ps.take k ++ [p]) p (T p)) → (t = false → Best T (ps.take k ++ [p]) pr tk) → J52 t σ41 := by
            intro t a b
            rw [h52]
            intro _
            refine bc_b (fun e => gixg hps41 (by omega) (by omega) ?_) (fun e => k24 _ _ _ hs41 (b e))
            rw [egt]
            exact k24 _ _ _ hs41 (a e)
          rcases Nat.eq_zero_or_pos k with e0 | e0
          · have e1 := hz e0
            have e2 : ps.take k = [] := by rw [e0]; rfl
            rw [e2] at k52
            exact bc_d (fun _ => k52 true (fun _ => Best.one) fun h => by cases h) (fun h => absurd (show pr < 0 by omega) h)
          · have hbk := hb e0
            refine bc_d (fun h => absurd h (by have := hprp e0; omega)) (fun _ => ?_)
            refine bc_d (fun h => k52 true (fun _ => hbk.take (.inl h)) fun h => by cases h) (fun h => ?_)
            refine bc_d (fun h2 => gixg hps41 (by omega) (by omega) ?_) (fun h2 => k52 false (fun h => by cases h) fun _ => hbk.keep (by omega))
            rw [egt]
            exact k52 _ (fun h3 => hbk.take (.inr ⟨h2, of_decide_eq_true h3⟩)) fun h3 => hbk.keep (.inr ⟨h2, by have := of_decide_eq_false h3; omega⟩)
        refine ⟨fun m n q τ' => ∃ u : Nat, m = ts.length - u ∧ n = sumI (ts.take u) ∧ q = u ∧ u ≤ ts.length ∧ τ' = σ41, ⟨_, 0, rfl, rfl, rfl, by omega, rfl⟩, ?_⟩
        rintro m n q τ' ⟨u, rfl, rfl, rfl, hu, rfl⟩ _
        refine bc_d (fun hlt2 => ?_) (fun hge2 => ?_)
        · have hul : u < ts.length := by omega
          have b1 := sumI_in ht8 htb u
          have b2 := sumI_in ht8 htb (u + 1)
          have e3 := sumI_takeP hul
          have b3 := htb u (by omega) (by omega)
          exact gixg hird (by omega) (by omega) (wk_i (by omega) (wk_i (by omega) (bk_of (ts.length - (u + 1)) (by omega) ⟨u + 1, rfl, e3.symm, by omega, by omega, rfl⟩)))
        · have : u = ts.length := by omega
          subst this
          rw [List.take_length, ← eTs]
          exact k48
      · have : k = ps.length := by omega
        subst this
        rw [h12]
        intro _
        have hb := hb (by omega)
        rw [List.take_length] at hb
        exact rt_of ⟨pr, tk, by rw [prC_yes hr hok], hs, fun _ => hb, fun h => absurd (prC_yes hr hok) h⟩
    refine ⟨fun m j τ => ∃ k : Nat, m = ps.length - k ∧ j = k ∧ k ≤ ps.length ∧ τ = σ ∧ ∀ u : Nat, u < k → okP (gt ps u) = true, ⟨_, 0, rfl, rfl, by omega, rfl, fun u h => absurd h (by omega)⟩, ?_⟩
    rintro m j τ ⟨k, rfl, rfl, hk, rfl, hj⟩ _
    refine bc_d (fun hlt => ?_) (fun hge => ?_)
    · have hkl : k < ps.length := by omega
      refine gixg hps (by omega) (by omega) (l_fr (bc_nb (fun h => rt_of (PrR.err (by decide) (prC_no hr ?_))) (fun h => wk_i (by omega) (bk_of _ (by omega) ⟨k + 1, rfl, by omega, by omega, rfl, fun u hu => ?_⟩))))
      · unfold okPs
        rw [all_false hkl (p := fun k => okP (gt ps k)) h, Bool.and_false]
      · rcases Nat.lt_or_ge u k with h1 | h1
        · exact hj u h1
        · have : u = k := by omega
          subst this; exact h
    · have : k = ps.length := by omega
      subst this
      refine k9 ?_
      unfold okPs
      rw [decide_eq_true hpl2, Bool.true_and]
      exact List.all_eq_true.2 fun u hu => hj u (List.mem_range.1 hu)
  refine cut_intro fun J89 h89 => ?_
  have k89 : ∀ t : Bool, (t = true → prC (chkQ w B G) B.length i ps = 1) → (t = false → (0 ≤ i ∧ i ≤ (B.length : Int) - 1) ∧ (1 ≤ ps.length ∧ ps.length ≤ 20)) → J89 t σ := by
    intro t a b
    rw [h89]
    intro _
    exact bc_b (fun h => rt_of (PrR.err (by decide) (a h))) (fun h => k6 (b h).1 (b h).2)
  refine wk_i (by omega) (l_fr (bc_nd (fun h => k89 true (fun _ => ?_) fun h => by cases h) (fun h => l_fr (k89 _ (fun h2 => ?_) fun h2 => ⟨by omega, ?_⟩))))
  · have e : rideC (chkQ w B G) B.length i = 1 := by rw [er, if_neg (by omega)]
    rw [prC_ride (by rw [e]; decide), e]
  · have e : rideC (chkQ w B G) B.length i = 0 := by rw [er, if_pos (by omega)]
    refine prC_no e ?_
    unfold okPs
    have h2 : ¬ (1 ≤ ((pl.n : Nat) : Int) ∧ ((pl.n : Nat) : Int) ≤ 20) := fun hh => by rw [decide_eq_true hh] at h2; cases h2
    rw [decide_eq_false (by omega)]
    rfl
  · have h2 : 1 ≤ ((pl.n : Nat) : Int) ∧ ((pl.n : Nat) : Int) ≤ 20 := by simpa using h2
    omega
end
end Go.Proofs.YtgcefaikdplbkaaGreat
