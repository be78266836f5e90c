/- For all inputs the law QueueEnds returns true, and what came in reads as it did. -/
import Derived.Test.YtgcefaikdplbkaaKa1
import Derived.Test.YtgcefaikdplbkaaB20
import Derived.Test.YtgcefaikdplbkaaQL10
namespace Go.Proofs.Ytgcefaikdplbkaa
open Go.RowKit Go.ChangeShapes Go.WideShapes Go.Deep Go.Joins

theorem hv_take {V : List Vis} {g : Int} {t : Nat} (h : t < V.length) (hg : V[t].1 = g) : hv (V.take (t + 1)) g = hv (V.take t) g ++ [V[t]] ∧ ∃ rest, hv V g = hv (V.take t) g ++ V[t] :: rest := by
  constructor
  · rw [List.take_succ_eq_append_getElem h, hv_same hg]
  · refine ⟨hv (V.drop (t + 1)) g, ?_⟩
    have e : V = V.take t ++ V[t] :: V.drop (t + 1) := by rw [← List.drop_eq_getElem_cons h, List.take_append_drop]
    have e2 : hv V g = hv (V.take t ++ V[t] :: V.drop (t + 1)) g := by rw [← e]
    rw [e2]
    unfold hv
    rw [List.filter_append, List.filter_cons, if_pos (by simpa using hg)]
theorem hv_takeN {V : List Vis} {g : Int} {t : Nat} (h : t < V.length) (hg : V[t].1 ≠ g) : hv (V.take (t + 1)) g = hv (V.take t) g := by
  rw [List.take_succ_eq_append_getElem h, hv_ne hg]
theorem lastT_in {w : Int} {B : List BthG} {G : List Grp} {V : List Vis} {hm : List Int} (D : Dn w B G V hm) (hv' : Val w B G) {c : Int} (hc : 0 ≤ c ∧ c ≤ 2000) : ∀ L : List Vis, (∀ v ∈ L, v ∈ V) → 0 ≤ lastT B c L ∧ lastT B c L ≤ 6000 := by
  intro L hL
  rcases List.eq_nil_or_concat L with rfl | ⟨L', v, rfl⟩
  · show 0 ≤ c ∧ c ≤ 6000
    omega
  · rw [List.concat_eq_append, lastT_snoc]
    have hm := hL v (by simp)
    obtain ⟨_, a2, a3, _, _, _, a7, a8⟩ := D.vi v hm
    have hr : 0 ≤ v.ride ∧ v.ride < B.length := by rw [a3]; exact hv'.want a2.1 a2.2
    have := (hv'.bt hr.1 hr.2).2.2.1
    unfold offT
    split <;> omega
set_option maxRecDepth 20000 in
theorem law_Ends {σ : Hp} {w : Int} {r l : SL} {B : List BthG} {ws : Nat → SL} {G : List Grp} (he : EvR σ r B l ws G) : FCalls Try.prog N_law07_QueueEnds #[.agg #[r.v, .int .i64 w], l.v] σ fun v _ => v = .bool true := by
  refine M_law07_QueueEnds_ok _ _ _ _ _ _ _ _ _ ?_
  unfold M_law07_QueueEnds
  refine clB M_law07_Far_enter (c_Far he) (bc_b (fun _ => l_works (rt_of rfl)) (fun hf => ?_))
  obtain ⟨f1, f2, f3⟩ := far_no hf
  have fw : ∀ k, (h : k < G.length) → G[k].wants.length ≤ 4294967296 := fun k hk => by have := f3 k hk; omega
  obtain ⟨V, hm, hD, hpl⟩ := lawPlay_ex w B G
  refine cl_of M_law07_play_enter ((hpl σ r l ws he).1 (by omega) (by omega) fw) ?_
  rintro v σ8 ⟨s, rfl, hs, hrd⟩
  refine ⟨_, _, _, _, rfl, ?_⟩
  have he8 := he.sub hs
  refine cl_of M_ref07_Copy_enter (c_Copy he8 (by omega)) ?_
  rintro v σ12 ⟨r', rfl, ho⟩
  refine ⟨_, _, _, _, rfl, ?_⟩
  have he12 := he8.sub ho.sub
  refine cl_of M_ref07_CopyGroups_enter (c_CopyGroups he12 (by omega) fw) ?_
  rintro v σ16 ⟨l', ws', rfl, hs16, hl', hw'⟩
  refine ⟨_, _, _, rfl, ?_⟩
  have he' : EvR σ16 r' B l' ws' G := ⟨ho.rd.sub hs16, hl', hw'⟩
  refine cl_of M_queue_Home_enter ((hpl σ16 r' l' ws' he').2) ?_
  rintro v σ19 ⟨sh, rfl, hos⟩
  refine ⟨_, _, _, _, rfl, bc_b (fun _ => bc_d (fun _ => l_works (rt_of rfl)) (fun h => absurd rfl h)) (fun hc => ?_)⟩
  have hc : chkQ w B G = 0 := by simpa using hc
  have hv' := chkQ_val hc
  rw [vsL_ok hc] at hrd
  rw [ofL_ok hc] at hos
  have D := hD hv'
  have he19 := (he12.sub hs16).sub hos.sub
  have hrd := hrd.sub ((ho.sub.trans hs16).trans hos.sub)
  have hrh := hos.rd
  clear hos he' hpl hD
  have hrn := he19.lenR
  have hln := he19.lenL
  have hsn : s.n = V.length := hrd.1
  have hhn : sh.n = hm.length := hrh.lenI
  have hhl := D.hl
  have hVl := D.len
  have hw0 := hv'.w
  refine cut_intro fun J27 h27 => ?_
  have k27 : J27 σ19 := by
    rw [h27]
    intro _
    refine cut_intro fun J30 h30 => ?_
    have k30 : J30 σ19 := by
      rw [h30]
      intro _
      exact l_works (rt_of rfl)
    refine ⟨fun m i τ => ∃ k : Nat, m = G.length - k ∧ i = k ∧ k ≤ G.length ∧ τ = σ19, ⟨_, 0, rfl, rfl, by omega, rfl⟩, ?_⟩
    rintro m i τ ⟨k, rfl, rfl, hk, rfl⟩ _
    refine bc_d (fun hlt => ?_) (fun _ => k30)
    have hkl : k < G.length := by omega
    have g1 : (k : Int) < (G.length : Int) := by omega
    refine cut_intro fun J41 h41 => ?_
    have k41 : J41 τ := by
      rw [h41]
      intro _
      exact wk_i (by omega) (bk_of _ (by omega) ⟨k + 1, rfl, by omega, by omega, rfl⟩)
    have hgr := hv'.gr (g := k) (by omega) g1
    obtain ⟨hch, hhm⟩ := D.ch k (by omega) g1
    have hlast := lastT_in D hv' hgr.1
    refine he19.gix (g := k) (by omega) g1 fun b a d0 _ _ _ _ => ldI_of d0 ?_
    refine cut_intro fun J50 h50 => ?_
    have k50 : J50 ((hv V k).length : Int) (lastT B (gd G k).came (hv V k)) τ := by
      rw [h50]
      intro _
      refine cut_intro fun J55 h55 => ?_
      have k55 : J55 false τ := by
        rw [h55]
        intro _
        exact k41
      refine gixg hrh (by omega) (by omega) (bc_d (fun h0 => ?_) (fun _ => k55))
      obtain ⟨h1, h2⟩ := hhm h0
      refine he19.gix (g := k) (by omega) g1 fun b a _ _ d3 _ hwt => ldS_of d3 ?_
      have hwn := hwt.lenI
      refine bc_b (fun e => ?_) (fun _ => ?_)
      · exfalso
        have e : ¬ ((hv V k).length : Int) = ((ws (k : Int).toNat).n : Int) := by simpa using e
        exact e (by rw [hwn, h1])
      · refine gixg hrh (by omega) (by omega) ?_
        rw [h2, decide_eq_true rfl]
        exact k55
    refine ⟨fun m n la i τ' => ∃ t : Nat, m = V.length - t ∧ n = ((hv (V.take t) k).length : Int) ∧ la = lastT B (gd G k).came (hv (V.take t) k) ∧ i = t ∧ t ≤ V.length ∧ τ' = τ, ⟨_, 0, rfl, rfl, rfl, rfl, by omega, rfl⟩, ?_⟩
    rintro m n la i τ' ⟨t, rfl, rfl, rfl, rfl, ht, rfl⟩ _
    refine bc_d (fun hlt2 => ?_) (fun hlt2 => ?_)
    · have htl : t < V.length := by omega
      refine cut_intro fun J75 h75 => ?_
      have k75 : J75 ((hv (V.take (t + 1)) k).length : Int) (lastT B (gd G k).came (hv (V.take (t + 1)) k)) τ' := by
        rw [h75]
        intro _
        exact wk_i (by omega) (bk_of _ (by omega) ⟨t + 1, rfl, rfl, rfl, by omega, by omega, rfl⟩)
      have hyes := hv_take (g := (k : Int)) htl
      have hno := hv_takeN (g := (k : Int)) htl
      have hmem := List.getElem_mem htl
      refine hrd.vix htl rfl fun b o c0 c1 c2 c3 c4 c5 => ldI_of c0 (ldI_of c1 (ldI_of c2 (ldB_of c3 (ldI_of c4 (ldI_of c5 ?_)))))
      generalize V[t] = v at *
      obtain ⟨_, ⟨w0, w1⟩, hr, _, _, _, hl5, hl0⟩ : (0 ≤ v.1 ∧ v.1 < G.length) ∧ (0 ≤ v.2.1 ∧ v.2.1 < (gd G v.1).wants.length) ∧ v.2.2.1 = gt (gd G v.1).wants v.2.1 ∧ v.2.2.2.2.1 ≤ v.2.2.2.2.2 ∧ (v.2.2.2.1 = true → v.2.2.2.2.2 - v.2.2.2.2.1 ≤ (gd G v.1).patience) ∧ v.2.2.2.2.2 - v.2.2.2.2.1 ≤ (gd G v.1).patience + 1 ∧ v.2.2.2.2.2 ≤ 5000 ∧ 0 ≤ v.2.2.2.2.2 := D.vi v hmem
      have hrr : 0 ≤ v.2.2.1 ∧ v.2.2.1 < B.length := by rw [hr]; exact hv'.want w0 w1
      have hbt := hv'.bt hrr.1 hrr.2
      refine bc_b (fun e => ?_) (fun e => ?_)
      · have e : ¬ v.1 = (k : Int) := by simpa using e
        rw [hno e] at k75
        exact k75
      · have e : v.1 = (k : Int) := by simpa using e
        obtain ⟨hy1, rest, hy2⟩ := hyes e
        have hLl : (hv (V.take t) k).length ≤ V.length := Nat.le_trans (List.length_filter_le ..) (by rw [List.length_take]; omega)
        have hla := hlast (hv (V.take t) k) fun u hu => List.mem_of_mem_take (List.mem_filter.1 hu).1
        have hj : (hv (V.take t) k).length < (hv V k).length := by rw [hy2]; simp
        have hcj := hch.c _ hj
        have ej : (hv V k)[(hv (V.take t) k).length] = v := by simp [hy2]
        have et : (hv V k).take (hv (V.take t) k).length = hv (V.take t) k := by rw [hy2]; exact List.take_left' rfl
        rw [ej, et] at hcj
        obtain ⟨j1, j2⟩ : v.2.1 = ((hv (V.take t) k).length : Int) ∧ v.2.2.2.2.1 = lastT B (gd G k).came (hv (V.take t) k) + w := hcj
        refine cut_intro fun J91 h91 => ?_
        have k91 : J91 τ' := by
          rw [h91]
          intro _
          have el : ((hv (V.take t) k).length : Int) + 1 = ((hv (V.take (t + 1)) k).length : Int) := by rw [hy1, List.length_append]; rfl
          have eo : lastT B (gd G k).came (hv (V.take (t + 1)) k) = v.2.2.2.2.2 + if v.2.2.2.1 = true then (bd B v.2.2.1).cycle else 0 := by rw [hy1, lastT_snoc]; rfl
          refine wk_i (by omega) ?_
          rw [el]
          rw [eo] at k75
          refine bc_b (fun eon => ?_) (fun eon => ?_)
          · rw [if_pos eon] at k75
            exact he19.rix hrr.1 hrr.2 fun b a _ _ d2 _ _ => ldI_of d2 (wk_i (by omega) k75)
          · rw [if_neg (by rw [eon]; simp), Int.add_zero] at k75
            exact k75
        refine cut_intro fun J99 h99 => ?_
        have k99 : J99 false τ' := by
          rw [h99]
          intro _
          exact k91
        refine bc_b (fun h => ?_) (fun _ => ?_)
        · exfalso
          have h : ¬ v.2.1 = ((hv (V.take t) k).length : Int) := by simpa using h
          exact h j1
        refine bc_d (fun h => absurd h (by omega)) (fun _ => ?_)
        refine bc_d (fun h => absurd h (by omega)) (fun _ => ?_)
        rw [decide_eq_false (by omega)]
        exact k99
    · have : t = V.length := by omega
      subst this
      rw [List.take_length]
      exact k50
  refine cut_intro fun J103 h103 => ?_
  have k103 : J103 false σ19 := by
    rw [h103]
    intro _
    exact k27
  refine bc_b (fun h => ?_) (fun _ => ?_)
  · exfalso
    have h : ¬ chkQ w B G = 0 := by simpa using h
    exact h hc
  · have e : (!decide ((sh.n : Int) = (l.n : Int))) = false := by rw [decide_eq_true (by omega)]; rfl
    rw [e]
    exact k103
set_option maxRecDepth 100000 in
theorem lifted_Ends (os : Os) (started : os.Started) (H : Type) (enc : TypeId × Value → H) :
    ReturnsInHanded {} Try.checked os N_law07_QueueEnds .any (Rows.queueEndsSpec.pre6 enc Try.prog Try.f10 Rows.queueEndsRow.domain false) (Rows.queueEndsSpec.post enc Try.prog Try.f10 false true false false) := by
  refine returnsInHanded_of_change (C := Try.checked) Try.own started (by kernel_rfl) Try.func10
    (ChangeSpec.witness6 (enc := enc) (C := Try.checked) false ⟨#[], #[.agg #[.slice none 0 0, .int .i64 0], .slice none 0 0], []⟩ 8 (by kernel_rfl) (by kernel_rfl) (by kernel_rfl) (by kernel_rfl)) ?_
  intro W base args ds gs before hval0 hW _ _
  have hval : ∀ (j : Nat) t v, Try.f10.params[j]? = some t → args[j]? = some v → Value.okWide Try.prog W .any base t v := hval0
  have hW' := hW
  obtain ⟨p, q, hA0, hV, rfl, hfz, hnd⟩ := hW
  have hA : DataW.TrodAll enc Try.prog W 0 (fun _ => true) true Try.f10.params.toList args.toList ds p := hA0
  have hA1 := hA
  rw [Try.params10] at hA hval
  obtain ⟨v0, v1, d0, d1, p0, p1, rfl, rfl, rfl, h0, h1⟩ := trodAll_two hA
  obtain ⟨rfl, rfl⟩ := trodVars_none hV
  obtain ⟨r, w, B, rfl, hr⟩ := open_evening (hval 0 24 v0 rfl rfl) h0
  obtain ⟨l, ws, G, rfl, hl, hw⟩ := open_groups (hval 1 25 v1 rfl rfl) h1
  simp only [List.append_nil] at hW' hA1
  exact law_shut Try.laidOut (by kernel_rfl) rfl Try.underlying4 rfl rfl hW' hA1 (law_Ends ⟨hr, hl, hw⟩)
theorem queueEnds_holds : Rows.QueueEndsSaid :=
  OpenClaim.holds_of_wide N_law07_QueueEnds Try.f10 rfl rfl rfl rfl rfl rfl rfl ⟨rfl, rfl, rfl, rfl, rfl⟩ rfl rfl rfl rfl rfl (by kernel_rfl) Try.func10 (by kernel_rfl)
    (of_decide_eq_true (by kernel_rfl)) (by unfold Func.isWrapper; rw [if_neg (of_decide_eq_false (by kernel_rfl))]; exact ⟨rfl, rfl⟩)
    (fun os started H enc _ => lifted_Ends os started H enc)
#print axioms queueEnds_holds
end Go.Proofs.Ytgcefaikdplbkaa
