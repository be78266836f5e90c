/- Contracts of layer 7: equality of groups. -/
import Derived.Test.YtgcefaikdplbkaaRa9
namespace Go.Proofs.Ytgcefaikdplbkaa
open Go.RowKit

section
variable {σ : Hp} {w : Int} {r l : SL} {B : List BthG} {ws : Nat → SL} {G : List Grp}
set_option maxRecDepth 20000 in
theorem c_sameGroups {r' l' : SL} {ws' : Nat → SL} (h : EvR σ r B l ws G) (h' : EvR σ r' B l' ws' G) (hG : G.length ≤ 4294967296) (hW : ∀ k, (h : k < G.length) → G[k].wants.length ≤ 4294967296) : FCalls Try.prog N_law07_sameGroups #[l.v, l'.v] σ fun v _ => v = .bool true := by
  refine M_law07_sameGroups_ok _ _ _ _ _ _ _ _ ?_
  unfold M_law07_sameGroups
  have hn : l.n = G.length := h.lenL
  have hn' : l'.n = G.length := h'.lenL
  refine bc_b (fun e => ?_) (fun e => ?_)
  · have e : ¬ (l.n : Int) = l'.n := by simpa using e
    exact absurd (by rw [hn, hn']) e
  · refine cut_intro fun J3 h3 => ?_
    refine ⟨fun m i τ => ∃ k : Nat, m = G.length - k ∧ i = k ∧ k ≤ G.length ∧ Hp.Sub σ τ, ⟨_, 0, rfl, rfl, by omega, Hp.Sub.refl _⟩, ?_⟩
    rintro m i τ ⟨k, rfl, rfl, hk, hs⟩ _
    refine bc_d (fun hlt => ?_) (fun hlt => ?_)
    · have hkl : k < G.length := by omega
      refine cut_intro fun J11 h11 => ?_
      have k11 : ∀ τ', Hp.Sub σ τ' → J11 τ' := by
        intro τ' a
        rw [h11]
        intro _
        exact wk_i (by omega) (bk_of _ (by omega) ⟨k + 1, rfl, by omega, by omega, a⟩)
      refine cut_intro fun J17 h17 => ?_
      have k17 : ∀ (b1 b2 : Nat) (τ' : Hp), Hp.Sub σ τ' → τ' b1 = some (.cells #[.int .i64 G[k].came, .int .i64 G[k].size, .int .i64 G[k].tokens, (ws k).v, .int .i64 G[k].patience] 44 (0, 0), true) → τ' b2 = some (.cells #[.int .i64 G[k].came, .int .i64 G[k].size, .int .i64 G[k].tokens, (ws' k).v, .int .i64 G[k].patience] 44 (0, 0), true) → J17 (some ⟨b1, 0, none⟩) (some ⟨b2, 0, none⟩) τ' := by
        intro b1 b2 τ' a p1 p2
        rw [h17]
        intro _
        refine cut_intro fun J22 h22 => ?_
        have k22 : ∀ τ2, Hp.Sub σ τ2 → J22 false τ2 := by
          intro τ2 a2
          rw [h22]
          intro _
          exact k11 _ a2
        refine dr_i (bldI p1 rfl (dr_i (bldI p2 rfl (bc_b (fun e => by simp at e) (fun _ => ?_)))))
        refine dr_i (bldI p1 rfl (dr_i (bldI p2 rfl (bc_b (fun e => by simp at e) (fun _ => ?_)))))
        refine dr_i (bldI p1 rfl (dr_i (bldI p2 rfl (bc_b (fun e => by simp at e) (fun _ => ?_)))))
        refine dr_i (bldI p1 rfl (dr_i (bldI p2 rfl (bc_b (fun e => by simp at e) (fun _ => ?_)))))
        refine dr_i (bldS p1 rfl (dr_i (bldS p2 rfl ?_)))
        exact l_same ((h.w k hkl).sub a) ((h'.w k hkl).sub a) (hW k hkl) (k22 _ a)
      have leaf : bx τ (.cells #[.int .i64 G[k].came, .int .i64 G[k].size, .int .i64 G[k].tokens, (ws k).v, .int .i64 G[k].patience] 44 (0, 0)) fun b1 σ1 => bx σ1 (.cells #[.int .i64 G[k].came, .int .i64 G[k].size, .int .i64 G[k].tokens, (ws' k).v, .int .i64 G[k].patience] 44 (0, 0)) fun b2 σ2 => J17 (some ⟨b1, 0, none⟩) (some ⟨b2, 0, none⟩) σ2 := by
        intro b1 n1 b2 n2
        refine k17 b1 b2 _ ((hs.trans (Hp.Sub.ins _ n1)).trans (Hp.Sub.ins _ n2)) (Hp.Sub.ins _ n2 _ _ (Hp.ins_same ..)) (Hp.ins_same ..)
      refine (h.sub hs).group hkl fun b o c0 c1 c2 c3 c4 => ldI_of c0 (ldI_of c1 (ldI_of c2 (ldS_of c3 (ldI_of c4 ?_))))
      refine (h'.sub hs).group hkl fun b o d0 d1 d2 d3 d4 => ?_
      repeat' (first | exact ldI_of d0 (ldI_of d1 (ldI_of d2 (ldS_of d3 (ldI_of d4 leaf)))) | exact ldI_of d0 (ldI_of d1 (ldI_of d2 (ldS_of d3 (ldI_of d4 ⟨leaf, leaf⟩)))) | apply And.intro)
    · rw [h3]
      intro _
      exact rt_of rfl
end
end Go.Proofs.Ytgcefaikdplbkaa
