/- For all inputs the law QueueLater returns true, and what came in reads as it did. -/
import Derived.Test.YtgcefaikdplbkaaKa1
import Derived.Test.YtgcefaikdplbkaaSc1
import Derived.Test.YtgcefaikdplbkaaQL9
namespace Go.Proofs.Ytgcefaikdplbkaa
open Go.RowKit Go.ChangeShapes Go.WideShapes Go.Deep Go.Joins

section
variable {H : Type} {enc : TypeId × Value → H} {W : World} {sp : Nat → Bool} {hd : Bool}
set_option maxRecDepth 100000 in
theorem open_group {v : Value} {d : DataW H} {p : List MemPlace} {b0 : Nat} (hv : Value.okWide Try.prog W .any b0 44 v) (h : DataW.Trod enc Try.prog W 0 sp hd 44 v d p) : ∃ (m : Grp) (s : SL), v = .agg #[.int .i64 m.came, .int .i64 m.size, .int .i64 m.tokens, s.v, .int .i64 m.patience] ∧ RdS [.int .i64] (whole W) s.A s.n m.wants := by
  obtain ⟨cs, rfl, hsz⟩ := okWide_struct Try.underlying44 hv
  obtain ⟨fuel, hf⟩ := h
  have hf : DataW.trod enc Try.prog W 0 sp hd fuel 44 cs.toList = some (d, p) := hf
  obtain ⟨x, e, xs, hw⟩ := elt_group hf
  refine ⟨⟨x.1, x.2.1, x.2.2.1, xs, x.2.2.2.2⟩, ⟨x.2.2.2.1.1, x.2.2.2.1.2.1, x.2.2.2.1.2.2⟩, ?_, hw⟩
  exact congrArg Value.agg (Array.toList_inj.1 (show cs.toList = [_, _, _, _, _] from e))
end
section
variable {σ : Hp} {w : Int} {r l : SL} {B : List BthG} {ws : Nat → SL} {G : List Grp}
/-- copies of groups, in a list that is owned -/
theorem c_CopyGroupsO (hr : EvR σ r B l ws G) (hG : G.length ≤ 4294967296) (hW : ∀ k, (h : k < G.length) → G[k].wants.length ≤ 4294967296) : FCalls Try.prog N_ref07_CopyGroups #[l.v] σ fun v σ' => ∃ (l' : SL) (ws' : Nat → SL) (σx : Hp), v = l'.v ∧ Hp.Sub σ σx ∧ OwnSl 44 sG σx l'.A l'.n l'.c (G.mapIdx (grpT ws')) σ' ∧ ∀ i, (h : i < G.length) → RdS [.int .i64] σx (ws' i).A (ws' i).n G[i].wants := by
  refine M_ref07_CopyGroups_ok _ _ _ _ _ ?_
  unfold M_ref07_CopyGroups
  refine ⟨_, hr.l, roomy_i (by rw [List.length_nil, Nat.zero_add]; exact Nat.le_trans (Nat.le_of_eq (List.length_mapIdx ..)) hG) ?_⟩
  refine cut_intro fun J4 h4 => ?_
  refine ⟨fun m A n c i τ => ∃ (k : Nat) (ws' : Nat → SL) (σx : Hp), m = G.length - k ∧ i = k ∧ k ≤ G.length ∧ Hp.Sub σ σx ∧ OwnSl 44 sG σx A n c (G.mapIdx (grpT ws')) τ ∧ (∀ i, (h : i < G.length) → RdS [.int .i64] σx (ws' i).A (ws' i).n G[i].wants), ⟨G.length, ?_⟩, ?_⟩
  · intro A n c σ' ho
    exact ⟨0, ws, σ, rfl, rfl, by omega, Hp.Sub.refl _, ho, hr.w⟩
  rintro m A n c i τ ⟨k, ws', σx, rfl, rfl, hk, hs, ho, hw⟩ _
  have hlen : n = G.length := by rw [ho.len]; exact List.length_mapIdx ..
  refine bc_d (fun hlt => ?_) (fun hlt => ?_)
  · have hkl : k < G.length := by omega
    have hW := hW k hkl
    have hix : ∀ {K : Nat → Nat → Prop}, (∀ b off, A = some ⟨b, off, none⟩ → K b (off + k * 5)) → ix A n k 5 K := fun {K} hK => by
      rcases ho with ⟨_, _, _, he, _⟩ | ⟨b, off, cells, hA, _⟩
      · have : (G.mapIdx (grpT ws')).length = 0 := by rw [he]; rfl
        rw [List.length_mapIdx] at this
        omega
      · subst hA
        refine ⟨by omega, by omega, ?_⟩
        rw [mulSz_eq]
        exact hK b off rfl
    have hrd := ho.rd
    have hk' : ((k : Nat) : Int).toNat < (G.mapIdx (grpT ws')).length := by simpa using hkl
    refine ix_of hrd rfl (by omega) hk' fun b o hc => ?_
    have e : (G.mapIdx (grpT ws'))[((k : Nat) : Int).toNat]'hk' = grpT ws' k G[k] := by simp
    rw [e] at hc
    refine ⟨_, _, _, hc 3 (by show 3 < 5; omega), G[k].wants, (hw k hkl).sub ho.sub, roomy_i (by rw [List.length_nil, Nat.zero_add]; exact hW) (hix fun b off hA => ?_)⟩
    intro A20 l20 c20 σ21 o21
    obtain ⟨σx', o1, o2⟩ := ho.swap o21
    have hk2 : k < (G.mapIdx (grpT ws')).length := by simpa using hkl
    obtain ⟨b', off', hA', hput⟩ := o2.put (Hp.Sub.refl _) hk2
    rw [hA] at hA'
    cases hA'
    have eg : (G.mapIdx (grpT ws'))[k] = grpT ws' k G[k] := by simp
    obtain ⟨wz, z1, z2⟩ : ∃ wz : Nat → SL, wz k = ⟨A20, l20, c20⟩ ∧ ∀ i, i ≠ k → wz i = ws' i := ⟨fun i => if i = k then ⟨A20, l20, c20⟩ else ws' i, if_pos rfl, fun i h => if_neg h⟩
    obtain ⟨w1, σ2, w2, w3⟩ := hput 3 (.slice A20 l20 c20) (grpT wz k G[k]) (by rw [eg]; unfold grpT; rw [z1]; rfl)
    refine ⟨w1, wk_i (by omega) (bk_sub _ (by omega) w3 ⟨k + 1, wz, σx', rfl, by omega, by omega, hs.trans o1.sub, ?_, fun i hi => ?_⟩)⟩
    · have := mapIdx_set (G := G) (ws := ws') (ws' := wz) hkl rfl z2
      rw [this] at w2
      exact w2
    · by_cases c' : i = k
      · subst c'
        rw [z1]
        exact o1.rd
      · rw [z2 i c']
        exact (hw i hi).sub o1.sub
  · have : k = G.length := by omega
    subst this
    rw [h4]
    intro _
    exact rt_of ⟨⟨A, n, c⟩, ws', σx, rfl, hs, ho, hw⟩
/-- one more group behind a list of groups -/
theorem EvR.more {σ' : Hp} {l'' : SL} {m : Grp} {s : SL} {wz : Nat → SL} (z1 : ∀ i, i < G.length → wz i = ws i) (z2 : wz G.length = s) (hr : RdS sB σ' r.A r.n (B.map bthT)) (hw : ∀ i, (h : i < G.length) → RdS [.int .i64] σ' (ws i).A (ws i).n G[i].wants) (hm : RdS [.int .i64] σ' s.A s.n m.wants)
    (hl : RdS sG σ' l''.A l''.n (G.mapIdx (grpT ws) ++ ([(m.came, m.size, m.tokens, (s.A, s.n, s.c), m.patience)] : List (TyR sG)))) : EvR σ' r B l'' wz (G ++ [m]) := by
  refine ⟨hr, ?_, fun i hi => ?_⟩
  · have e : (G ++ [m]).mapIdx (grpT wz) = G.mapIdx (grpT ws) ++ ([(m.came, m.size, m.tokens, (s.A, s.n, s.c), m.patience)] : List (TyR sG)) := by
      rw [List.mapIdx_append]
      congr 1
      · apply List.ext_getElem
        · rw [List.length_mapIdx, List.length_mapIdx]
        · intro i h1 h2
          rw [List.getElem_mapIdx, List.getElem_mapIdx]
          unfold grpT
          rw [z1 i (by rw [List.length_mapIdx] at h1; exact h1)]
      · show [grpT wz (0 + G.length) m] = _
        unfold grpT
        rw [Nat.zero_add, z2]
    exact (congrArg (fun z : List (TyR sG) => RdS sG σ' l''.A l''.n z) e).mpr hl
  · rcases Nat.lt_or_ge i G.length with h | h
    · rw [List.getElem_append_left h, z1 i h]
      exact hw i h
    · have hi' : i = G.length := by simp at hi; omega
      subst hi'
      rw [List.getElem_append_right (Nat.le_refl _), z2]
      simpa using hm
/-- two evenings as the laws play them, one with one more group -/
theorem lawLater_ex (w : Int) (B : List BthG) (G : List Grp) (m : Grp) : ∃ (V V' : List Vis), (Val w B G → Val w B (G ++ [m]) → V.length ≤ 2200000 ∧ V'.length ≤ 2200000 ∧ ∃ A W W', V = A ++ W ∧ V' = A ++ W' ∧ (∀ v ∈ A, v.left < m.came) ∧ (∀ v ∈ W, m.came ≤ v.left) ∧ ∀ v ∈ W', m.came ≤ v.left) ∧
    (∀ (σ : Hp) (r l : SL) (ws : Nat → SL), EvR σ r B l ws G → B.length ≤ 4294967296 → G.length ≤ 4294967296 → (∀ k, (h : k < G.length) → G[k].wants.length ≤ 4294967296) → FCalls Try.prog N_law07_play #[.agg #[r.v, .int .i64 w], l.v] σ (VsR σ (chkQ w B G) V)) ∧
    (∀ (σ : Hp) (r l : SL) (ws : Nat → SL), EvR σ r B l ws (G ++ [m]) → B.length ≤ 4294967296 → (G ++ [m]).length ≤ 4294967296 → (∀ k, (h : k < (G ++ [m]).length) → (G ++ [m])[k].wants.length ≤ 4294967296) → FCalls Try.prog N_law07_play #[.agg #[r.v, .int .i64 w], l.v] σ (VsR σ (chkQ w B (G ++ [m])) V')) :=
  ⟨_, _, fun hv hv' => ⟨(played_done hv).len, (played_done hv').len, later_same hv hv'⟩, fun _ _ _ _ he => c_lawPlay he, fun _ _ _ _ he => c_lawPlay he⟩
set_option maxRecDepth 20000 in
theorem law_Later {m : Grp} {ms : SL} (he : EvR σ r B l ws G) (hm : RdS [.int .i64] σ ms.A ms.n m.wants) : FCalls Try.prog N_law07_QueueLater #[.agg #[r.v, .int .i64 w], l.v, .agg #[.int .i64 m.came, .int .i64 m.size, .int .i64 m.tokens, ms.v, .int .i64 m.patience]] σ fun v _ => v = .bool true := by
  refine M_law07_QueueLater_ok _ _ _ _ _ _ _ _ _ _ _ _ _ _ _ _ ?_
  unfold M_law07_QueueLater
  have hmn : ms.n = m.wants.length := hm.lenI
  refine cut_intro fun J3 h3 => ?_
  have k3 : B.length ≤ 10 → G.length ≤ 70 → (∀ k, (h : k < G.length) → G[k].wants.length ≤ 20) → m.wants.length ≤ 20 → J3 σ := by
    intro f1 f2 f3 f4
    rw [h3]
    intro _
    have fw : ∀ k, (h : k < G.length) → G[k].wants.length ≤ 4294967296 := fun k hk => by have := f3 k hk; omega
    have hGl : (G ++ [m]).length = G.length + 1 := by simp
    have fw' : ∀ k, (h : k < (G ++ [m]).length) → (G ++ [m])[k].wants.length ≤ 4294967296 := fun k hk => by
      rcases Nat.lt_or_ge k G.length with h | h
      · rw [List.getElem_append_left h]
        exact fw k h
      · have : k = G.length := by omega
        subst this
        rw [List.getElem_append_right (Nat.le_refl _)]
        simp
        omega
    obtain ⟨V, V', hD, hp1, hp2⟩ := lawLater_ex w B G m
    refine cl_of M_law07_play_enter (hp1 σ r l ws he (by omega) (by omega) fw) ?_
    rintro v σ5 ⟨s, rfl, hs, hrd⟩
    refine ⟨_, _, _, _, rfl, ?_⟩
    have he5 := he.sub hs
    refine cut_intro fun J10 h10 => ?_
    have k10 : ∀ (s' : SL) (σ9 : Hp), Hp.Sub σ5 σ9 → RdS sV σ9 s'.A s'.n (vsL (chkQ w B (G ++ [m])) V') → J10 s'.A s'.n s'.c (chkQ w B (G ++ [m])) σ9 := by
      intro s' σ9 hs9 hrd'
      rw [h10]
      intro _
      have hrd := hrd.sub hs9
      refine cut_intro fun J15 h15 => ?_
      have k15 : chkQ w B G = 0 → chkQ w B (G ++ [m]) = 0 → J15 σ9 := by
        intro hc hc'
        rw [h15]
        intro _
        have hv := chkQ_val hc
        have hv' := chkQ_val hc'
        rw [vsL_ok hc] at hrd
        rw [vsL_ok hc'] at hrd'
        obtain ⟨n1, n2, A, W, W', rfl, rfl, a1, a2, a3⟩ := hD hv hv'
        have hsn : s.n = (A ++ W).length := hrd.1
        have hsn' : s'.n = (A ++ W').length := hrd'.1
        have hl1 : (A ++ W).length = A.length + W.length := List.length_append
        have hl2 : (A ++ W').length = A.length + W'.length := List.length_append
        refine cut_intro fun J18 h18 => ?_
        have k18 : J18 (A.length : Int) σ9 := by
          rw [h18]
          intro _
          refine bc_d (fun h => absurd h (by omega)) (fun _ => ?_)
          refine cut_intro fun J22 h22 => ?_
          have k22 : J22 σ9 := by
            rw [h22]
            intro _
            refine bc_d (fun _ => l_works (rt_of rfl)) (fun hne => ?_)
            have hwl : A.length < (A ++ W').length := by omega
            have hmem : (A ++ W')[A.length] ∈ W' := by
              rw [List.getElem_append_right (Nat.le_refl _)]
              exact List.getElem_mem _
            have hle : m.came ≤ (A ++ W')[A.length].2.2.2.2.2 := a3 _ hmem
            refine hrd'.vix hwl rfl fun b o _ _ _ _ _ c5 => ldI_of c5 ?_
            exact bc_d (fun _ => l_works (rt_of rfl)) (fun h => absurd hle h)
          refine ⟨fun q i τ => ∃ k : Nat, q = A.length - k ∧ i = k ∧ k ≤ A.length ∧ τ = σ9, ⟨_, 0, rfl, rfl, by omega, rfl⟩, ?_⟩
          rintro q i τ ⟨k, rfl, rfl, hk, rfl⟩ _
          refine bc_d (fun hlt => ?_) (fun _ => k22)
          have hkl : k < A.length := by omega
          have e1 : (A ++ W')[k]'(by omega) = A[k] := List.getElem_append_left hkl
          have e2 : (A ++ W)[k]'(by omega) = A[k] := List.getElem_append_left hkl
          refine hrd'.vix (by omega) e1 fun b o c0 c1 c2 c3 c4 c5 => ldI_of c0 (ldI_of c1 (ldI_of c2 (ldB_of c3 (ldI_of c4 (ldI_of c5 ?_)))))
          refine hrd.vix (by omega) e2 fun b o c0 c1 c2 c3 c4 c5 => ldI_of c0 (ldI_of c1 (ldI_of c2 (ldB_of c3 (ldI_of c4 (ldI_of c5 ?_)))))
          refine bc_b (fun e => ?_) (fun _ => wk_i (by omega) (bk_of _ (by omega) ⟨k + 1, rfl, by omega, by omega, rfl⟩))
          simp at e
        refine ⟨fun q i τ => ∃ k : Nat, q = A.length - k ∧ i = k ∧ k ≤ A.length ∧ τ = σ9, ⟨_, 0, rfl, rfl, by omega, rfl⟩, ?_⟩
        rintro q i τ ⟨k, rfl, rfl, hk, rfl⟩ _
        refine cut_intro fun J63 h63 => ?_
        have k63 : k < A.length → J63 τ := by
          intro hkl
          rw [h63]
          intro _
          exact wk_i (by omega) (bk_of _ (by omega) ⟨k + 1, rfl, by omega, by omega, rfl⟩)
        refine cut_intro fun J69 h69 => ?_
        have k69 : ∀ t : Bool, (t = true ↔ k < A.length) → J69 t τ := by
          intro t ht
          rw [h69]
          intro _
          refine bc_b (fun e => k63 (ht.1 e)) (fun e => ?_)
          have : ¬ k < A.length := fun h => by rw [ht.2 h] at e; cases e
          have : k = A.length := by omega
          subst this
          exact k18
        refine bc_d (fun hlt => ?_) (fun hge => k69 false ⟨fun h => (by cases h), fun h => by omega⟩)
        have hkl : k < (A ++ W).length := by omega
        refine hrd.vix hkl rfl fun b o _ _ _ _ _ c5 => ldI_of c5 (k69 _ ?_)
        rcases Nat.lt_or_ge k A.length with h | h
        · have e : (A ++ W)[k] = A[k] := List.getElem_append_left h
          have h2 : A[k].2.2.2.2.2 < m.came := a1 _ (List.getElem_mem h)
          rw [e, decide_eq_true h2]
          exact ⟨fun _ => h, fun _ => rfl⟩
        · have hmem : (A ++ W)[k] ∈ W := by
            rw [List.getElem_append_right h]
            exact List.getElem_mem _
          have h2 : m.came ≤ (A ++ W)[k].2.2.2.2.2 := a2 _ hmem
          rw [decide_eq_false (by omega)]
          exact ⟨fun h => (by cases h), fun h' => by omega⟩
      refine cut_intro fun J76 h76 => ?_
      have k76 : ∀ t : Bool, (t = false → chkQ w B G = 0 ∧ chkQ w B (G ++ [m]) = 0) → J76 t σ9 := by
        intro t ht
        rw [h76]
        intro _
        exact bc_b (fun _ => l_works (rt_of rfl)) (fun e => k15 (ht e).1 (ht e).2)
      refine bc_b (fun _ => k76 true fun h => by cases h) (fun e1 => k76 _ fun e2 => ⟨by simpa using e1, by simpa using e2⟩)
    have leaf : cl Try.prog (.func (.func N_ref07_CopyGroups) #[] #[]) #[l.v] σ5 fun v81 σ82 => ∃ A83 : Option Addr, ∃ l83 : Nat, ∃ c83 : Nat, (v81 = (.slice A83 l83 c83) ∧ (Hp.Sub σ5 σ82 ∧ adp 44 sG A83 l83 c83 σ82 (fun (xs84 : List (Int × Int × Int × (Option Addr × Nat × Nat) × Int)) σ85 =>
        roomy (List.length xs84 + List.length ([(m.came, m.size, m.tokens, (ms.A, ms.n, ms.c), m.patience)] : List (Int × Int × Int × (Option Addr × Nat × Nat) × Int))) (exl 44 sG (xs84 ++ ([(m.came, m.size, m.tokens, (ms.A, ms.n, ms.c), m.patience)] : List (Int × Int × Int × (Option Addr × Nat × Nat) × Int))) σ85 (fun A86 l86 c86 σ87 =>
        cl Try.prog (.func (.func N_law07_play) #[] #[]) #[(.agg #[r.v, (.int .i64 w)]), (.slice A86 l86 c86)] σ87 (fun v88 σ89 =>
        ∃ A90 : Option Addr, ∃ l90 : Nat, ∃ c90 : Nat, ∃ n91 : Int, (v88 = (.tuple #[(.slice A90 l90 c90), (.int .i64 n91)]) ∧ J10 A90 l90 c90 n91 σ89))))))) := by
      refine cl_of M_ref07_CopyGroups_enter (c_CopyGroupsO he5 (by omega) fw) ?_
      rintro v σ82 ⟨l', ws', σx, rfl, hsx, ho, hw⟩
      refine ⟨_, _, _, rfl, hsx.trans ho.sub, adp_own ho (roomy_i ?_ ?_)⟩
      · show (G.mapIdx (grpT ws')).length + 1 ≤ _
        rw [List.length_mapIdx]
        omega
      intro A86 l86 c86 σ87 ho2
      have hs87 := hsx.trans ho2.sub
      have heN : EvR σ87 r B ⟨A86, l86, c86⟩ (fun i => if i < G.length then ws' i else ms) (G ++ [m]) := EvR.more (s := ms) (fun i h => if_pos h) (if_neg (Nat.lt_irrefl _)) ((he5.sub hs87).r) (fun i hi => (hw i hi).sub ho2.sub) (hm.sub (hs.trans hs87)) ho2.rd
      refine cl_of M_law07_play_enter (hp2 σ87 r ⟨A86, l86, c86⟩ _ heN (by omega) (by omega) fw') ?_
      rintro v σ89 ⟨s', rfl, hs89, hrd'⟩
      exact ⟨_, _, _, _, rfl, k10 s' σ89 (hs87.trans hs89) hrd'⟩
    repeat' (first | exact leaf | (refine FFun.mono leaf fun v σ' ⟨A, n, c, e, hs, ha⟩ => ⟨A, n, c, e, hs, ?_⟩; first | exact ⟨ha, ha⟩ | exact ⟨ha, ha, ha⟩ | exact ⟨⟨ha, ha⟩, ha⟩) | apply And.intro)
  refine cut_intro fun J162 h162 => ?_
  have k162 : ∀ t : Bool, (t = false → (B.length ≤ 10 ∧ G.length ≤ 70 ∧ ∀ k, (h : k < G.length) → G[k].wants.length ≤ 20) ∧ m.wants.length ≤ 20) → J162 t σ := by
    intro t ht
    rw [h162]
    intro _
    exact bc_b (fun _ => l_works (rt_of rfl)) (fun e => k3 (ht e).1.1 (ht e).1.2.1 (ht e).1.2.2 (ht e).2)
  refine clB M_law07_Far_enter (c_Far he) (bc_b (fun _ => k162 true fun h => by cases h) (fun hf => k162 _ fun h => ⟨far_no hf, ?_⟩))
  have h : ¬ (20 : Int) < ((ms.n : Nat) : Int) := by simpa using h
  omega
end
set_option maxRecDepth 100000 in
theorem lifted_Later (os : Os) (started : os.Started) (H : Type) (enc : TypeId × Value → H) :
    ReturnsInHanded {} Try.checked os N_law07_QueueLater .any (Rows.queueLaterSpec.pre6 enc Try.prog Try.f9 Rows.queueLaterRow.domain false) (Rows.queueLaterSpec.post enc Try.prog Try.f9 false true false false) := by
  refine returnsInHanded_of_change (C := Try.checked) Try.own started (by kernel_rfl) Try.func9
    (ChangeSpec.witness6 (enc := enc) (C := Try.checked) false ⟨#[], #[.agg #[.slice none 0 0, .int .i64 0], .slice none 0 0, .agg #[.int .i64 0, .int .i64 0, .int .i64 0, .slice none 0 0, .int .i64 0]], []⟩ 8 (by kernel_rfl) (by kernel_rfl) (by kernel_rfl) (by kernel_rfl)) ?_
  intro W base args ds gs before hval0 hW _ _
  have hval : ∀ (j : Nat) t v, Try.f9.params[j]? = some t → args[j]? = some v → Value.okWide Try.prog W .any base t v := hval0
  have hW' := hW
  obtain ⟨p, q, hA0, hV, rfl, hfz, hnd⟩ := hW
  have hA : DataW.TrodAll enc Try.prog W 0 (fun _ => true) true Try.f9.params.toList args.toList ds p := hA0
  have hA1 := hA
  rw [Try.params9] at hA hval
  obtain ⟨v0, v1, v2, d0, d1, d2, p0, p1, p2, rfl, rfl, rfl, h0, h1, h2⟩ := trodAll_three hA
  obtain ⟨rfl, rfl⟩ := trodVars_none hV
  obtain ⟨r, w, B, rfl, hr⟩ := open_evening (hval 0 24 v0 rfl rfl) h0
  obtain ⟨l, ws, G, rfl, hl, hw⟩ := open_groups (hval 1 25 v1 rfl rfl) h1
  obtain ⟨mg, ms, rfl, hm⟩ := open_group (hval 2 44 v2 rfl rfl) h2
  simp only [List.append_nil] at hW' hA1
  exact law_shut Try.laidOut (by kernel_rfl) rfl Try.underlying4 rfl rfl hW' hA1 (law_Later ⟨hr, hl, hw⟩ hm)
theorem queueLater_holds : Rows.QueueLaterSaid :=
  OpenClaim.holds_of_wide N_law07_QueueLater Try.f9 rfl rfl rfl rfl rfl rfl rfl ⟨rfl, rfl, rfl, rfl, rfl⟩ rfl rfl rfl rfl rfl (by kernel_rfl) Try.func9 (by kernel_rfl)
    (of_decide_eq_true (by kernel_rfl)) (by unfold Func.isWrapper; rw [if_neg (of_decide_eq_false (by kernel_rfl))]; exact ⟨rfl, rfl⟩)
    (fun os started H enc _ => lifted_Later os started H enc)
#print axioms queueLater_holds
end Go.Proofs.Ytgcefaikdplbkaa
