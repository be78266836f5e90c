/- Contracts of layer 7: Check of the reference, copies, the looks at inputs. -/
import Derived.Test.YtgcefaikdplbkaaQc1
namespace Go.Proofs.Ytgcefaikdplbkaa
open Go.RowKit

section
variable {σ : Hp} {w : Int} {r l : SL} {B : List BthG} {ws : Nat → SL} {G : List Grp}
theorem c_checkEvening (hr : EvR σ r B l ws G) (hB : B.length ≤ 4294967296) : FCalls Try.prog N_ref07_checkEvening #[.agg #[r.v, .int .i64 w]] σ fun v σ' => v = .int .i64 (if evOK w B = true then 0 else 70) ∧ σ' = σ := by
  refine M_ref07_checkEvening_ok _ _ _ _ _ _ ?_
  unfold M_ref07_checkEvening
  have hn := hr.lenR
  refine cut_intro fun J3 h3 => cut_intro fun J43 h43 => ?_
  have k3 : B.length ≤ 8 → (0 ≤ w ∧ w ≤ 100) → J3 σ := by
    intro h8 hw
    have hev : evOK w B = (List.range B.length).all fun k => okB (bd B k) := by unfold evOK; rw [decide_eq_true h8, decide_eq_true hw]; rfl
    rw [h3]
    intro _
    refine cut_intro fun J6 h6 => ?_
    refine ⟨fun m i τ => ∃ k : Nat, m = B.length - k ∧ i = k ∧ k ≤ B.length ∧ τ = σ ∧ (List.range k).all (fun k => okB (bd B k)) = true, ⟨_, 0, rfl, rfl, by omega, rfl, rfl⟩, ?_⟩
    rintro m i τ ⟨k, rfl, rfl, hk, rfl, ha⟩ _
    refine bc_d (fun hlt => ?_) (fun hlt => ?_)
    · have hkl : k < B.length := by omega
      have e1 : bd B k = B[k] := by unfold bd; simp [List.getD, hkl]
      refine cut_intro fun J14 h14 => hr.ride hkl fun b o c0 c1 c2 c3 c4 => ?_
      refine ⟨_, c0, _, c1, _, c2, _, c3, _, c4, cut_intro fun J27 h27 => ?_⟩
      have k27 : ∀ t, t = !okB (bd B k) → J27 t τ := by
        rintro t rfl
        rw [h27]
        intro _
        refine bc_nb (fun h => rt_of ⟨?_, rfl⟩) (fun h => ?_)
        · rw [hev, all_false hkl h]; rfl
        · rw [h14]
          intro _
          exact wk_i (by omega) (bk_of _ (by omega) ⟨k + 1, rfl, by omega, by omega, rfl, by rw [all_succ, ha, h]; rfl⟩)
      rw [e1] at k27
      unfold okB at k27
      refine l_fr (bc_nd (fun h => k27 _ (by rw [decide_eq_false h]; rfl)) (fun h1 => l_fr (bc_nd (fun h => k27 _ (by rw [decide_eq_true h1, decide_eq_false h]; rfl)) (fun h2 => l_fr (bc_nd (fun h => k27 _ (by rw [decide_eq_true h1, decide_eq_true h2, decide_eq_false h]; rfl)) (fun h3' => l_fr (k27 _ (by rw [decide_eq_true h1, decide_eq_true h2, decide_eq_true h3']; rfl))))))) )
    · have : k = B.length := by omega
      subst this
      rw [h6]
      intro _
      exact rt_of ⟨by rw [hev, ha]; rfl, rfl⟩
  have k43 : ∀ t, t = !(decide (B.length ≤ 8) && decide (0 ≤ w ∧ w ≤ 100)) → J43 t σ := by
    rintro t rfl
    rw [h43]
    intro _
    refine bc_nb (fun h => rt_of ⟨?_, rfl⟩) (fun h => ?_)
    · have : evOK w B = false := by
        unfold evOK
        rw [Bool.and_eq_false_iff] at h
        rcases h with h | h
        · rw [h]; rfl
        · rw [h, Bool.false_and, Bool.and_false]
      rw [this]; rfl
    · rw [Bool.and_eq_true, decide_eq_true_eq, decide_eq_true_eq] at h
      exact k3 h.1 h.2
  refine bc_d (fun h => k43 _ ?_) (fun h => l_fr (k43 _ ?_))
  · rw [decide_eq_false (by omega)]; rfl
  · rw [decide_eq_true (show B.length ≤ 8 by omega)]; rfl
theorem c_refCheck (hr : EvR σ r B l ws G) (hB : B.length ≤ 4294967296) (hG : G.length ≤ 4294967296) (hW : ∀ k, (h : k < G.length) → G[k].wants.length ≤ 4294967296) : FCalls Try.prog N_ref07_Check #[.agg #[r.v, .int .i64 w], l.v] σ fun v σ' => v = .int .i64 (chkQ w B G) ∧ σ' = σ := by
  refine M_ref07_Check_ok _ _ _ _ _ _ _ _ _ ?_
  unfold M_ref07_Check
  have hn := hr.lenR
  have hl := hr.lenL
  unfold chkQ
  refine clI M_ref07_checkEvening_enter (c_checkEvening hr hB) (bc_nd (fun h => ?_) (fun h => ?_))
  · have h1 : ¬ evOK w B = true := fun h' => h (if_pos h')
    have h2 : evOK w B = false := by simpa using h1
    rw [if_neg h1, if_pos h2]
    exact rt_of ⟨rfl, rfl⟩
  · have h1 : evOK w B = true := by
      by_cases c : evOK w B = true
      · exact c
      · rw [if_neg c] at h; omega
    rw [h1, if_neg (show ¬ true = false by simp)]
    refine bc_d (fun c => rt_of ⟨by rw [if_pos (show 60 < G.length by omega)], rfl⟩) (fun c => ?_)
    rw [if_neg (show ¬ 60 < G.length by omega)]
    refine cut_intro fun J6 h6 => ?_
    refine ⟨fun m i τ => ∃ k : Nat, m = G.length - k ∧ i = k ∧ k ≤ G.length ∧ τ = σ ∧ (List.range k).all (fun k => okG B.length (gd G k)) = true, ⟨_, 0, rfl, rfl, by omega, rfl, rfl⟩, ?_⟩
    rintro m i τ ⟨k, rfl, rfl, hk, rfl, ha⟩ _
    refine bc_d (fun hlt => ?_) (fun hlt => ?_)
    · have hkl : k < G.length := by omega
      have e1 : gd G k = G[k] := by unfold gd; simp [List.getD, hkl]
      have hw := hr.w k hkl
      have hwl := hw.lenI
      have hW := hW k hkl
      refine cut_intro fun J14 h14 => hr.group hkl fun b o c0 c1 c2 c3 c4 => ?_
      refine ⟨_, c0, _, c1, _, c2, _, _, _, c3, _, c4, cut_intro fun J27 h27 => cut_intro fun J45 h45 => ?_⟩
      have kbad : okG B.length (gd G k) = false → rt τ (fun v σ' => v = .int .i64 (if ((List.range G.length).all fun k => okG B.length (gd G k)) = false then 71 else 0) ∧ σ' = τ) (.int .i64 71) := fun hb => rt_of ⟨by rw [if_pos (all_false hkl hb)], rfl⟩
      have k14 : okG B.length (gd G k) = true → J14 τ := by
        intro hb
        rw [h14]
        intro _
        exact wk_i (by omega) (bk_of _ (by omega) ⟨k + 1, rfl, by omega, by omega, rfl, by rw [all_succ, ha, hb]; rfl⟩)
      rw [e1] at kbad k14
      have k27 : (0 ≤ G[k].came ∧ G[k].came ≤ 2000) → (1 ≤ G[k].size ∧ G[k].size ≤ 40) → (0 ≤ G[k].tokens ∧ G[k].tokens ≤ 10000) → (0 ≤ G[k].patience ∧ G[k].patience ≤ 2000) → G[k].wants.length ≤ 10 → J27 τ := by
        intro d1 d2 d3 d4 d5
        have hok : okG B.length G[k] = (List.range G[k].wants.length).all fun j => okW B.length (gt G[k].wants j) := by unfold okG; rw [decide_eq_true d1, decide_eq_true d2, decide_eq_true d3, decide_eq_true d4, decide_eq_true d5]; rfl
        rw [hok] at kbad k14
        rw [h27]
        intro _
        refine ⟨fun m i τ2 => ∃ j : Nat, m = G[k].wants.length - j ∧ i = j ∧ j ≤ G[k].wants.length ∧ τ2 = τ ∧ (List.range j).all (fun j => okW B.length (gt G[k].wants j)) = true, ⟨_, 0, rfl, rfl, by omega, rfl, rfl⟩, ?_⟩
        rintro m i τ2 ⟨j, rfl, rfl, hj, rfl, hb⟩ _
        refine bc_d (fun hlt2 => ?_) (fun hlt2 => ?_)
        · have hjl : j < G[k].wants.length := by omega
          refine gixg hw (by omega) (by omega) (wk_i (by omega) (l_fr (bc_nd (fun hx => kbad ?_) (fun hx => wk_i (by omega) (bk_of _ (by omega) ⟨j + 1, rfl, by omega, by omega, rfl, ?_⟩)))))
          · refine all_false hjl ?_
            unfold okW
            rw [← hn]
            exact decide_eq_false hx
          · rw [all_succ, hb, Bool.true_and]
            unfold okW
            rw [← hn]
            exact decide_eq_true hx
        · have : j = G[k].wants.length := by omega
          subst this
          exact k14 hb
      have k45 : ∀ t, t = !(decide (0 ≤ G[k].came ∧ G[k].came ≤ 2000) && (decide (1 ≤ G[k].size ∧ G[k].size ≤ 40) && (decide (0 ≤ G[k].tokens ∧ G[k].tokens ≤ 10000) && (decide (G[k].wants.length ≤ 10) && decide (0 ≤ G[k].patience ∧ G[k].patience ≤ 2000))))) → J45 t τ := by
        rintro t rfl
        rw [h45]
        intro _
        refine bc_nb (fun hx => kbad ?_) (fun hx => ?_)
        · unfold okG
          cases d1 : decide (0 ≤ G[k].came ∧ G[k].came ≤ 2000) <;> cases d2 : decide (1 ≤ G[k].size ∧ G[k].size ≤ 40) <;> cases d3 : decide (0 ≤ G[k].tokens ∧ G[k].tokens ≤ 10000) <;> cases d4 : decide (0 ≤ G[k].patience ∧ G[k].patience ≤ 2000) <;> cases d5 : decide (G[k].wants.length ≤ 10) <;> first | rfl | (rw [d1, d2, d3, d4, d5] at hx; cases hx)
        · simp only [Bool.and_eq_true, decide_eq_true_eq] at hx
          obtain ⟨d1, d2, d3, d4, d5⟩ := hx
          exact k27 d1 d2 d3 d5 d4
      refine l_fr (bc_nd (fun h => k45 _ (by rw [decide_eq_false h]; rfl)) (fun d1 => l_fr (bc_nd (fun h => k45 _ (by rw [decide_eq_true d1, decide_eq_false h]; rfl)) (fun d2 => l_fr (bc_nd (fun h => k45 _ (by rw [decide_eq_true d1, decide_eq_true d2, decide_eq_false h]; rfl)) (fun d3 => bc_d (fun d4 => k45 _ (by rw [decide_eq_true d1, decide_eq_true d2, decide_eq_true d3, decide_eq_false (show ¬ G[k].wants.length ≤ 10 by omega)]; rfl)) (fun d4 => l_fr (k45 _ (by rw [decide_eq_true d1, decide_eq_true d2, decide_eq_true d3, decide_eq_true (show G[k].wants.length ≤ 10 by omega)]; rfl)))))))))
    · have : k = G.length := by omega
      subst this
      rw [h6]
      intro _
      exact rt_of ⟨by rw [ha, if_neg (by simp)], rfl⟩

/-! ### What is not looked at -/
def farB (B : List BthG) (G : List Grp) : Bool := decide (10 < B.length) || (decide (70 < G.length) || (List.range G.length).any fun k => decide (20 < (gd G k).wants.length))
theorem c_Far (hr : EvR σ r B l ws G) : FCalls Try.prog N_law07_Far #[.agg #[r.v, .int .i64 w], l.v] σ fun v σ' => v = .bool (farB B G) ∧ σ' = σ := by
  refine M_law07_Far_ok _ _ _ _ _ _ _ _ _ ?_
  unfold M_law07_Far
  have hn := hr.lenR
  have hl := hr.lenL
  refine cut_intro fun J3 h3 => cut_intro fun J20 h20 => ?_
  have k3 : ¬ 10 < B.length → ¬ 70 < G.length → J3 σ := by
    intro a1 a2
    have hf : farB B G = (List.range G.length).any fun k => decide (20 < (gd G k).wants.length) := by unfold farB; rw [decide_eq_false a1, decide_eq_false a2]; rfl
    rw [h3]
    intro _
    refine cut_intro fun J6 h6 => ?_
    refine ⟨fun m i τ => ∃ k : Nat, m = G.length - k ∧ i = k ∧ k ≤ G.length ∧ τ = σ ∧ ∀ j, j < k → decide (20 < (gd G j).wants.length) = false, ⟨_, 0, rfl, rfl, by omega, rfl, fun j h => by omega⟩, ?_⟩
    rintro m i τ ⟨k, rfl, rfl, hk, rfl, hj⟩ _
    refine bc_d (fun hlt => ?_) (fun hlt => ?_)
    · have hkl : k < G.length := by omega
      have e1 : gd G k = G[k] := by unfold gd; simp [List.getD, hkl]
      have hwl := (hr.w k hkl).lenI
      refine hr.group hkl fun b o c0 c1 c2 c3 c4 => ⟨_, _, _, c3, ?_⟩
      refine bc_d (fun h => rt_of ⟨?_, rfl⟩) (fun h => wk_i (by omega) (bk_of _ (by omega) ⟨k + 1, rfl, by omega, by omega, rfl, fun j hjk => ?_⟩))
      · rw [hf, any_true hkl (decide_eq_true (by rw [e1]; omega))]
      · rcases Nat.lt_or_ge j k with h1 | h1
        · exact hj j h1
        · have : j = k := by omega
          subst this
          exact decide_eq_false (by rw [e1]; omega)
    · have : k = G.length := by omega
      subst this
      rw [h6]
      intro _
      exact rt_of ⟨by rw [hf, any_false fun j h => hj j h], rfl⟩
  have k20 : ∀ t, t = (decide (10 < B.length) || decide (70 < G.length)) → J20 t σ := by
    rintro t rfl
    rw [h20]
    intro _
    refine bc_b (fun h => rt_of ⟨?_, rfl⟩) (fun h => ?_)
    · unfold farB
      rw [← Bool.or_assoc, h, Bool.true_or]
    · rw [Bool.or_eq_false_iff] at h
      exact k3 (of_decide_eq_false h.1) (of_decide_eq_false h.2)
  refine bc_d (fun h => k20 _ ?_) (fun h => k20 _ ?_)
  · rw [decide_eq_true (show 10 < B.length by omega), Bool.true_or]
  · rw [decide_eq_false (show ¬ 10 < B.length by omega), Bool.false_or]
    exact decide_eq_decide.2 (by omega)
theorem far_no (h : farB B G = false) : B.length ≤ 10 ∧ G.length ≤ 70 ∧ ∀ k, (h : k < G.length) → G[k].wants.length ≤ 20 := by
  unfold farB at h
  rw [Bool.or_eq_false_iff, Bool.or_eq_false_iff] at h
  obtain ⟨h1, h2, h3⟩ := h
  have h1 := of_decide_eq_false h1
  have h2 := of_decide_eq_false h2
  refine ⟨by omega, by omega, fun k hk => ?_⟩
  by_cases c : 20 < (gd G k).wants.length
  · rw [any_true hk (decide_eq_true c)] at h3; cases h3
  · have e1 : gd G k = G[k] := by unfold gd; simp [List.getD, hk]
    rw [e1] at c
    omega

/-! ### Copies -/
theorem c_Copy (hr : EvR σ r B l ws G) (hB : B.length ≤ 4294967296) : FCalls Try.prog N_ref07_Copy #[.agg #[r.v, .int .i64 w]] σ fun v σ' => ∃ r' : SL, v = .agg #[r'.v, .int .i64 w] ∧ OwnSl 46 sB σ r'.A r'.n r'.c (B.map bthT) σ' := by
  refine M_ref07_Copy_ok _ _ _ _ _ _ ?_
  unfold M_ref07_Copy
  have hl : (B.map bthT).length ≤ 4294967296 := by rw [List.length_map]; exact hB
  have key : ∀ A n c σ', OwnSl 46 sB σ A n c ([] ++ B.map bthT) σ' → rt σ' (fun v σ' => ∃ r' : SL, v = .agg #[r'.v, .int .i64 w] ∧ OwnSl 46 sB σ r'.A r'.n r'.c (B.map bthT) σ') (.agg #[.slice A n c, .int .i64 w]) := fun A n c σ' ho => rt_of ⟨⟨A, n, c⟩, rfl, ho⟩
  have hro : roomy (([] : List (TyR sB)).length + (B.map bthT).length) (∀ A n c σ', OwnSl 46 sB σ A n c ([] ++ B.map bthT) σ' → rt σ' (fun v σ' => ∃ r' : SL, v = .agg #[r'.v, .int .i64 w] ∧ OwnSl 46 sB σ r'.A r'.n r'.c (B.map bthT) σ') (.agg #[.slice A n c, .int .i64 w])) := roomy_i (by rw [List.length_nil, Nat.zero_add]; exact hl) key
  exact ⟨⟨⟨_, hr.r, hro⟩, ⟨_, hr.r, hro⟩⟩, ⟨_, hr.r, hro⟩⟩
theorem mapIdx_set {ws ws' : Nat → SL} {k : Nat} {g : Grp} (hk : k < G.length) (hg : G[k] = g) (h : ∀ i, i ≠ k → ws' i = ws i) : (G.mapIdx (grpT ws)).set k (grpT ws' k g) = G.mapIdx (grpT ws') := by
  apply List.ext_getElem
  · simp
  · intro i h1 h2
    rw [List.getElem_set]
    simp only [List.getElem_mapIdx]
    by_cases c : k = i
    · subst c
      rw [if_pos rfl, hg]
    · rw [if_neg c]
      unfold grpT
      rw [h i fun e => c e.symm]
theorem c_CopyGroups (hr : EvR σ r B l ws G) (hG : G.length ≤ 4294967296) (hW : ∀ k, (h : k < G.length) → G[k].wants.length ≤ 4294967296) : FCalls Try.prog N_ref07_CopyGroups #[l.v] σ fun v σ' => ∃ (l' : SL) (ws' : Nat → SL), v = l'.v ∧ Hp.Sub σ σ' ∧ RdS sG σ' l'.A l'.n (G.mapIdx (grpT ws')) ∧ ∀ i, (h : i < G.length) → RdS [.int .i64] σ' (ws' i).A (ws' i).n G[i].wants := by
  refine M_ref07_CopyGroups_ok _ _ _ _ _ ?_
  unfold M_ref07_CopyGroups
  refine ⟨_, hr.l, roomy_i (by rw [List.length_nil, Nat.zero_add]; exact Nat.le_trans (Nat.le_of_eq (List.length_mapIdx ..)) hG) ?_⟩
  refine cut_intro fun J4 h4 => ?_
  refine ⟨fun m A n c i τ => ∃ (k : Nat) (ws' : Nat → SL) (σx : Hp), m = G.length - k ∧ i = k ∧ k ≤ G.length ∧ Hp.Sub σ σx ∧ OwnSl 44 sG σx A n c (G.mapIdx (grpT ws')) τ ∧ (∀ i, (h : i < G.length) → RdS [.int .i64] σx (ws' i).A (ws' i).n G[i].wants), ⟨G.length, ?_⟩, ?_⟩
  · intro A n c σ' ho
    exact ⟨0, ws, σ, rfl, rfl, by omega, Hp.Sub.refl _, ho, hr.w⟩
  rintro m A n c i τ ⟨k, ws', σx, rfl, rfl, hk, hs, ho, hw⟩ _
  have hlen : n = G.length := by rw [ho.len]; exact List.length_mapIdx ..
  refine bc_d (fun hlt => ?_) (fun hlt => ?_)
  · have hkl : k < G.length := by omega
    have hW := hW k hkl
    have hix : ∀ {K : Nat → Nat → Prop}, (∀ b off, A = some ⟨b, off, none⟩ → K b (off + k * 5)) → ix A n k 5 K := fun {K} hK => by
      rcases ho with ⟨_, _, _, he, _⟩ | ⟨b, off, cells, hA, _⟩
      · have : (G.mapIdx (grpT ws')).length = 0 := by rw [he]; rfl
        rw [List.length_mapIdx] at this
        omega
      · subst hA
        refine ⟨by omega, by omega, ?_⟩
        rw [mulSz_eq]
        exact hK b off rfl
    have hrd := ho.rd
    have hk' : ((k : Nat) : Int).toNat < (G.mapIdx (grpT ws')).length := by simpa using hkl
    refine ix_of hrd rfl (by omega) hk' fun b o hc => ?_
    have e : (G.mapIdx (grpT ws'))[((k : Nat) : Int).toNat]'hk' = grpT ws' k G[k] := by simp
    rw [e] at hc
    refine ⟨_, _, _, hc 3 (by show 3 < 5; omega), G[k].wants, (hw k hkl).sub ho.sub, roomy_i (by rw [List.length_nil, Nat.zero_add]; exact hW) (hix fun b off hA => ?_)⟩
    intro A20 l20 c20 σ21 o21
    obtain ⟨σx', o1, o2⟩ := ho.swap o21
    have hk2 : k < (G.mapIdx (grpT ws')).length := by simpa using hkl
    obtain ⟨b', off', hA', hput⟩ := o2.put (Hp.Sub.refl _) hk2
    rw [hA] at hA'
    cases hA'
    have eg : (G.mapIdx (grpT ws'))[k] = grpT ws' k G[k] := by simp
    obtain ⟨wz, z1, z2⟩ : ∃ wz : Nat → SL, wz k = ⟨A20, l20, c20⟩ ∧ ∀ i, i ≠ k → wz i = ws' i := ⟨fun i => if i = k then ⟨A20, l20, c20⟩ else ws' i, if_pos rfl, fun i h => if_neg h⟩
    obtain ⟨w1, σ2, w2, w3⟩ := hput 3 (.slice A20 l20 c20) (grpT wz k G[k]) (by rw [eg]; unfold grpT; rw [z1]; rfl)
    refine ⟨w1, wk_i (by omega) (bk_sub _ (by omega) w3 ⟨k + 1, wz, σx', rfl, by omega, by omega, hs.trans o1.sub, ?_, fun i hi => ?_⟩)⟩
    · have := mapIdx_set (G := G) (ws := ws') (ws' := wz) hkl rfl z2
      rw [this] at w2
      exact w2
    · by_cases c' : i = k
      · subst c'
        rw [z1]
        exact o1.rd
      · rw [z2 i c']
        exact (hw i hi).sub o1.sub
  · have : k = G.length := by omega
    subst this
    rw [h4]
    intro _
    exact rt_of ⟨⟨A, n, c⟩, ws', rfl, hs.trans ho.sub, ho.rd, fun i hi => (hw i hi).sub ho.sub⟩
end
end Go.Proofs.Ytgcefaikdplbkaa
