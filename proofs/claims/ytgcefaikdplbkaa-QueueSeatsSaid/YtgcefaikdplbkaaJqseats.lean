/- For all inputs the law QueueSeats returns true, and what came in reads as it did. -/
import Derived.Test.YtgcefaikdplbkaaKa1
import Derived.Test.YtgcefaikdplbkaaB20
import Derived.Test.YtgcefaikdplbkaaQL7
namespace Go.Proofs.Ytgcefaikdplbkaa
open Go.RowKit Go.ChangeShapes Go.WideShapes Go.Deep Go.Joins

theorem ld_app {G : List Grp} {V U : List Vis} {r t : Int} : ld G (V ++ U) r t = ld G V r t + ld G U r t := by
  unfold ld
  rw [List.map_append, sumI_app]
/-- how many get on with v, of the first k -/
def onN (G : List Grp) (V : List Vis) (v : Vis) (k : Nat) : Int := if v.on = true then ld G (V.take k) v.ride v.left else 0
theorem onN_succ {G : List Grp} {V : List Vis} {v : Vis} {k : Nat} (h : k < V.length) : onN G V v (k + 1) = onN G V v k + if v.on = true ∧ V[k].on = true ∧ V[k].ride = v.ride ∧ V[k].left = v.left then (gd G V[k].1).size else 0 := by
  unfold onN
  by_cases e : v.on = true
  · rw [if_pos e, if_pos e, List.take_succ_eq_append_getElem h, ld_snoc]
    congr 1
    by_cases e2 : V[k].on = true ∧ V[k].ride = v.ride ∧ V[k].left = v.left
    · rw [if_pos e2, if_pos ⟨e, e2⟩]
    · rw [if_neg e2, if_neg fun h => e2 h.2]
  · rw [if_neg e, if_neg e, if_neg fun h => e h.1]
    rfl
theorem onN_in {w : Int} {B : List BthG} {G : List Grp} {V : List Vis} {hm : List Int} (D : Dn w B G V hm) (hv : Val w B G) {v : Vis} (h0 : 0 ≤ v.ride) (h1 : v.ride < B.length) (k : Nat) : 0 ≤ onN G V v k ∧ onN G V v k ≤ (bd B v.ride).seats := by
  have hsz : ∀ u ∈ V, 1 ≤ (gd G u.1).size := fun u hu => (hv.gr (D.vi u hu).1.1 (D.vi u hu).1.2).2.1.1
  have hs := (hv.bt h0 h1).1
  unfold onN
  split
  · have e : V = V.take k ++ V.drop k := (List.take_append_drop k V).symm
    have h2 : ld G V v.ride v.left = ld G (V.take k) v.ride v.left + ld G (V.drop k) v.ride v.left := by
      rw [← ld_app, List.take_append_drop]
    have h3 := (ld_pos (G := G) (r := v.ride) (t := v.left) (V := V.take k) fun u hu => hsz u (List.mem_of_mem_take hu)).1
    have h4 := (ld_pos (G := G) (r := v.ride) (t := v.left) (V := V.drop k) fun u hu => hsz u (List.mem_of_mem_drop hu)).1
    have h5 := D.ld v.ride h0 h1 v.left
    omega
  · omega
set_option maxRecDepth 20000 in
theorem law_Seats {σ : Hp} {w : Int} {r l : SL} {B : List BthG} {ws : Nat → SL} {G : List Grp} (he : EvR σ r B l ws G) : FCalls Try.prog N_law07_QueueSeats #[.agg #[r.v, .int .i64 w], l.v] σ fun v _ => v = .bool true := by
  refine M_law07_QueueSeats_ok _ _ _ _ _ _ _ _ _ ?_
  unfold M_law07_QueueSeats
  refine clB M_law07_Far_enter (c_Far he) (bc_b (fun _ => l_works (rt_of rfl)) (fun hf => ?_))
  obtain ⟨f1, f2, f3⟩ := far_no hf
  have fw : ∀ k, (h : k < G.length) → G[k].wants.length ≤ 4294967296 := fun k hk => by have := f3 k hk; omega
  obtain ⟨V, hm, hD, hpl⟩ := lawPlay_ex w B G
  refine cl_of M_law07_play_enter ((hpl σ r l ws he).1 (by omega) (by omega) fw) ?_
  rintro v σ8 ⟨s, rfl, hs, hrd⟩
  refine ⟨_, _, _, _, rfl, bc_b (fun _ => l_works (rt_of rfl)) (fun hc => ?_)⟩
  have hc : chkQ w B G = 0 := by simpa using hc
  have hv := chkQ_val hc
  rw [vsL_ok hc] at hrd
  have D := hD hv
  have he8 := he.sub hs
  have hrn := he8.lenR
  have hln := he8.lenL
  have hwk := hv.w
  have hsn : s.n = V.length := hrd.1
  have hVl := D.len
  refine cut_intro fun J16 h16 => ?_
  have k16 : J16 σ8 := by
    rw [h16]
    intro _
    exact l_works (rt_of rfl)
  refine ⟨fun m i τ => ∃ k : Nat, m = V.length - k ∧ i = k ∧ k ≤ V.length ∧ τ = σ8, ⟨_, 0, rfl, rfl, by omega, rfl⟩, ?_⟩
  rintro m i τ ⟨k, rfl, rfl, hk, rfl⟩ _
  refine bc_d (fun hlt => ?_) (fun _ => k16)
  have hkl : k < V.length := by omega
  refine cut_intro fun J27 h27 => ?_
  have k27 : J27 τ := by
    rw [h27]
    intro _
    exact wk_i (by omega) (bk_of _ (by omega) ⟨k + 1, rfl, by omega, by omega, rfl⟩)
  refine hrd.vix hkl rfl fun b o c0 c1 c2 c3 c4 c5 => ldI_of c0 (ldI_of c1 (ldI_of c2 (ldB_of c3 (ldI_of c4 (ldI_of c5 ?_)))))
  have hmem := List.getElem_mem hkl
  generalize V[k] = v at *
  obtain ⟨⟨g0, g1⟩, ⟨w0, w1⟩, hr, ht, ho, hp, hl5, hl0⟩ : (0 ≤ v.1 ∧ v.1 < G.length) ∧ (0 ≤ v.2.1 ∧ v.2.1 < (gd G v.1).wants.length) ∧ v.2.2.1 = gt (gd G v.1).wants v.2.1 ∧ v.2.2.2.2.1 ≤ v.2.2.2.2.2 ∧ (v.2.2.2.1 = true → v.2.2.2.2.2 - v.2.2.2.2.1 ≤ (gd G v.1).patience) ∧ v.2.2.2.2.2 - v.2.2.2.2.1 ≤ (gd G v.1).patience + 1 ∧ v.2.2.2.2.2 ≤ 5000 ∧ 0 ≤ v.2.2.2.2.2 := D.vi v hmem
  have hrr : 0 ≤ v.2.2.1 ∧ v.2.2.1 < B.length := by rw [hr]; exact hv.want w0 w1
  have hgr := hv.gr g0 g1
  have hbt := hv.bt hrr.1 hrr.2
  have hon : ∀ k, 0 ≤ onN G V v k ∧ onN G V v k ≤ (bd B v.2.2.1).seats := onN_in D hv (v := v) hrr.1 hrr.2
  refine cut_intro fun J41 h41 => ?_
  have k41 : J41 τ := by
    rw [h41]
    intro _
    refine wk_i (by omega) ?_
    refine cut_intro fun J45 h45 => ?_
    have k45 : J45 τ := by
      rw [h45]
      intro _
      refine he8.rix hrr.1 hrr.2 fun b o d0 d1 d2 d3 d4 => ldI_of d0 (ldI_of d1 (ldI_of d2 (ldI_of d3 (ldB_of d4 ?_))))
      refine cut_intro fun J55 h55 => ?_
      have k55 : ∀ n, n ≤ (bd B v.2.2.1).seats → J55 n τ := by
        intro n hn
        rw [h55]
        intro _
        exact bc_d (fun h => absurd h (by omega)) (fun _ => k27)
      refine ⟨fun m n i τ' => ∃ t : Nat, m = V.length - t ∧ n = onN G V v t ∧ i = t ∧ t ≤ V.length ∧ τ' = τ, ⟨_, 0, rfl, ?_, rfl, by omega, rfl⟩, ?_⟩
      · unfold onN
        split <;> rfl
      rintro m n i τ' ⟨t, rfl, rfl, rfl, ht2, rfl⟩ _
      refine bc_d (fun hlt2 => ?_) (fun _ => k55 _ (hon t).2)
      have htl : t < V.length := by omega
      have hns := onN_succ (G := G) (v := v) htl
      have hb0 := hon t
      have hb1 := hon (t + 1)
      refine cut_intro fun J65 h65 => ?_
      have k65 : J65 (onN G V v (t + 1)) τ' := by
        rw [h65]
        intro _
        exact wk_i (by omega) (bk_of _ (by omega) ⟨t + 1, rfl, rfl, by omega, by omega, rfl⟩)
      refine hrd.vix htl rfl fun b o c0 c1 c2 c3 c4 c5 => ldI_of c0 (ldI_of c1 (ldI_of c2 (ldB_of c3 (ldI_of c4 (ldI_of c5 ?_)))))
      have hmemu := List.getElem_mem htl
      generalize V[t] = u at *
      obtain ⟨⟨ug0, ug1⟩, _, _, _, _, _, ul5, ul0⟩ : (0 ≤ u.1 ∧ u.1 < G.length) ∧ (0 ≤ u.2.1 ∧ u.2.1 < (gd G u.1).wants.length) ∧ u.2.2.1 = gt (gd G u.1).wants u.2.1 ∧ u.2.2.2.2.1 ≤ u.2.2.2.2.2 ∧ (u.2.2.2.1 = true → u.2.2.2.2.2 - u.2.2.2.2.1 ≤ (gd G u.1).patience) ∧ u.2.2.2.2.2 - u.2.2.2.2.1 ≤ (gd G u.1).patience + 1 ∧ u.2.2.2.2.2 ≤ 5000 ∧ 0 ≤ u.2.2.2.2.2 := D.vi u hmemu
      have hus := (hv.gr ug0 ug1).2.1
      have hwl := hgr.2.2.2.1
      have hadj : u.1 = v.1 → u.2.1 = v.2.1 + 1 → u.2.2.2.2.1 = (v.2.2.2.2.2 + if v.2.2.2.1 = true then (bd B v.2.2.1).cycle else 0) + w := D.adj v hmem u hmemu
      have hbo : v.2.2.2.1 = true → u.2.2.2.1 = true → u.2.2.1 = v.2.2.1 → u.2.2.2.2.2 ≤ v.2.2.2.2.2 → v.2.2.2.2.2 < u.2.2.2.2.2 + (bd B v.2.2.1).cycle → u.2.2.2.2.2 = v.2.2.2.2.2 := fun e1 e2 e3 e4 e5 => D.bo v.2.2.1 hrr.1 hrr.2 v hmem u hmemu e1 rfl e2 e3 e4 e5
      have hns : onN G V v (t + 1) = onN G V v t + if v.2.2.2.1 = true ∧ u.2.2.2.1 = true ∧ u.2.2.1 = v.2.2.1 ∧ u.2.2.2.2.2 = v.2.2.2.2.2 then (gd G u.1).size else 0 := hns
      refine cut_intro fun J80 h80 => ?_
      have k80 : J80 (onN G V v (t + 1)) τ' := by
        rw [h80]
        intro _
        refine cut_intro fun J84 h84 => ?_
        have k84 : ∀ b : Bool, (b = true → u.1 = v.1 ∧ u.2.1 = v.2.1 + 1) → J84 b τ' := by
          intro b hb
          rw [h84]
          intro _
          refine bc_b (fun e => ?_) (fun _ => k65)
          obtain ⟨e1, e2⟩ := hb e
          have hadj := hadj e1 e2
          refine cut_intro fun J88 h88 => ?_
          have k88 : ∀ n, n = (v.2.2.2.2.2 + if v.2.2.2.1 = true then (bd B v.2.2.1).cycle else 0) → J88 n τ' := by
            intro n hn
            rw [h88]
            intro _
            subst hn
            refine wk_i ?_ ?_
            · split <;> omega
            · refine bc_b (fun e => ?_) (fun _ => k65)
              exfalso
              have e : ¬ u.2.2.2.2.1 = (v.2.2.2.2.2 + if v.2.2.2.1 = true then (bd B v.2.2.1).cycle else 0) + w := by simpa using e
              exact e hadj
          refine bc_b (fun e => ?_) (fun e => ?_)
          · exact wk_i (by omega) (k88 _ (by rw [if_pos e]))
          · exact k88 _ (by rw [if_neg (by rw [e]; simp)]; omega)
        refine bc_d (fun e => ?_) (fun _ => k84 false fun e => by cases e)
        exact wk_i (by omega) (k84 _ fun e2 => ⟨e, of_decide_eq_true e2⟩)
      refine cut_intro fun J95 h95 => ?_
      have k95 : ∀ b : Bool, (b = true ↔ (v.2.2.2.1 = true ∧ u.2.2.2.1 = true ∧ u.2.2.1 = v.2.2.1 ∧ u.2.2.2.2.2 = v.2.2.2.2.2)) → J95 b τ' := by
        intro b hb
        rw [h95]
        intro _
        refine bc_b (fun e => ?_) (fun e => ?_)
        · rw [if_pos (hb.1 e)] at hns
          refine he8.gix ug0 ug1 fun b a _ d1 _ _ _ => ldI_of d1 (wk_i (by omega) ?_)
          rw [← hns]
          exact k80
        · rw [if_neg fun h => by rw [hb.2 h] at e; cases e] at hns
          rw [Int.add_zero] at hns
          rw [← hns]
          exact k80
      refine bc_d (fun e1 => ?_) (fun e1 => k95 false ⟨fun h => (by cases h), fun h => absurd h.2.2.1 e1⟩)
      refine bc_b (fun e2 => ?_) (fun e2 => k95 false ⟨fun h => (by cases h), fun h => by rw [h.2.1] at e2; cases e2⟩)
      refine bc_b (fun e3 => ?_) (fun e3 => k95 false ⟨fun h => (by cases h), fun h => by rw [h.1] at e3; cases e3⟩)
      refine bc_d (fun e4 => ?_) (fun e4 => k95 false ⟨fun h => (by cases h), fun h => absurd (Int.le_of_eq h.2.2.2) e4⟩)
      refine wk_i (by omega) (k95 _ ⟨fun h => ⟨e3, e2, e1, hbo e3 e2 e1 e4 (of_decide_eq_true h)⟩, fun h => decide_eq_true (by rw [h.2.2.2]; omega)⟩)
    refine cut_intro fun J104 h104 => ?_
    have k104 : J104 false τ := by
      rw [h104]
      intro _
      exact k45
    refine bc_d (fun h => absurd h (by omega)) (fun _ => ?_)
    refine bc_b (fun e => ?_) (fun e => ?_)
    · have ho := ho e
      refine he8.gix g0 g1 fun b a _ _ _ d4 _ => ldI_of d4 ?_
      refine bc_d (fun h => absurd h (by omega)) (fun _ => ?_)
      refine he8.gix g0 g1 fun b a _ _ _ d4 _ => ldI_of d4 (wk_i (by omega) ?_)
      rw [decide_eq_false (by omega)]
      exact k104
    · refine he8.gix g0 g1 fun b a _ _ _ d4 _ => ldI_of d4 (wk_i (by omega) ?_)
      rw [decide_eq_false (by omega)]
      exact k104
  refine cut_intro fun J119 h119 => ?_
  have k119 : J119 false τ := by
    rw [h119]
    intro _
    exact k41
  refine bc_d (fun h => absurd h (by omega)) (fun _ => ?_)
  refine bc_d (fun h => absurd h (by omega)) (fun _ => ?_)
  refine bc_d (fun h => absurd h (by omega)) (fun _ => ?_)
  refine bc_d (fun h => absurd h (by omega)) (fun _ => ?_)
  refine bc_d (fun h => absurd h (by omega)) (fun _ => ?_)
  refine he8.gix g0 g1 fun b a _ _ d3 _ hwt => ldS_of d3 ?_
  have hwn := hwt.lenI
  refine bc_d (fun h => absurd h (by omega)) (fun _ => ?_)
  refine he8.gix g0 g1 fun b a _ _ d3 _ hwt => ldS_of d3 (gixg hwt w0 w1 ?_)
  rw [← hr, decide_eq_true rfl]
  exact k119
set_option maxRecDepth 100000 in
theorem lifted_Seats (os : Os) (started : os.Started) (H : Type) (enc : TypeId × Value → H) :
    ReturnsInHanded {} Try.checked os N_law07_QueueSeats .any (Rows.queueSeatsSpec.pre6 enc Try.prog Try.f7 Rows.queueSeatsRow.domain false) (Rows.queueSeatsSpec.post enc Try.prog Try.f7 false true false false) := by
  refine returnsInHanded_of_change (C := Try.checked) Try.own started (by kernel_rfl) Try.func7
    (ChangeSpec.witness6 (enc := enc) (C := Try.checked) false ⟨#[], #[.agg #[.slice none 0 0, .int .i64 0], .slice none 0 0], []⟩ 8 (by kernel_rfl) (by kernel_rfl) (by kernel_rfl) (by kernel_rfl)) ?_
  intro W base args ds gs before hval0 hW _ _
  have hval : ∀ (j : Nat) t v, Try.f7.params[j]? = some t → args[j]? = some v → Value.okWide Try.prog W .any base t v := hval0
  have hW' := hW
  obtain ⟨p, q, hA0, hV, rfl, hfz, hnd⟩ := hW
  have hA : DataW.TrodAll enc Try.prog W 0 (fun _ => true) true Try.f7.params.toList args.toList ds p := hA0
  have hA1 := hA
  rw [Try.params7] at hA hval
  obtain ⟨v0, v1, d0, d1, p0, p1, rfl, rfl, rfl, h0, h1⟩ := trodAll_two hA
  obtain ⟨rfl, rfl⟩ := trodVars_none hV
  obtain ⟨r, w, B, rfl, hr⟩ := open_evening (hval 0 24 v0 rfl rfl) h0
  obtain ⟨l, ws, G, rfl, hl, hw⟩ := open_groups (hval 1 25 v1 rfl rfl) h1
  simp only [List.append_nil] at hW' hA1
  exact law_shut Try.laidOut (by kernel_rfl) rfl Try.underlying4 rfl rfl hW' hA1 (law_Seats ⟨hr, hl, hw⟩)
theorem queueSeats_holds : Rows.QueueSeatsSaid :=
  OpenClaim.holds_of_wide N_law07_QueueSeats Try.f7 rfl rfl rfl rfl rfl rfl rfl ⟨rfl, rfl, rfl, rfl, rfl⟩ rfl rfl rfl rfl rfl (by kernel_rfl) Try.func7 (by kernel_rfl)
    (of_decide_eq_true (by kernel_rfl)) (by unfold Func.isWrapper; rw [if_neg (of_decide_eq_false (by kernel_rfl))]; exact ⟨rfl, rfl⟩)
    (fun os started H enc _ => lifted_Seats os started H enc)
#print axioms queueSeats_holds
end Go.Proofs.Ytgcefaikdplbkaa
