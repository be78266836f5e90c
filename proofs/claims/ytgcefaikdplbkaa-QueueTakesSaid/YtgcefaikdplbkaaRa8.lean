/- Contracts of layer 7, reference: Home, Takes, Lines, Held; equality of lists of numbers. -/
import Derived.Test.YtgcefaikdplbkaaRa7
import Derived.Test.YtgcefaikdplbkaaQ1
namespace Go.Proofs.Ytgcefaikdplbkaa
open Go.RowKit

section
variable {σ : Hp} {w : Int} {r l : SL} {B : List BthG} {ws : Nat → SL} {G : List Grp}
/-- what the reference has in the end is what the program has -/
theorem Rl.same {N : Ngt} {S : Pl} {pl : Int → Int} (h : Rl w B G 0 0 N S pl [] (-1)) (hp : ∀ g : Int, 0 ≤ g → g < G.length → pl g ≤ 4) : S.homes = N.parties.map Pty.home ∧ S.guests.map Gs.tokens = N.parties.map Pty.purse ∧
    S.takes = N.rides.map Bth.takes ∧ S.lines = N.rides.map Bth.line := by
  have np := h.np
  have nr := h.nr
  refine ⟨?_, ?_, ?_, ?_⟩
  · apply List.ext_getElem
    · rw [h.lh, List.length_map, np]
    · intro i h1 h2
      have hi : i < G.length := by rw [← h.lh]; exact h1
      have hg := h.gr i (by omega) (by omega)
      have := hp i (by omega) (by omega)
      rcases hg.hm with hm | hm
      · rw [← gt_nat h1, hm, List.getElem_map]
        have hi2 : i < N.parties.length := by rw [np]; exact hi
        simp [Ngt.pa, List.getD, hi2]
      · omega
  · apply List.ext_getElem
    · rw [List.length_map, h.lg, List.length_map, np]
    · intro i h1 h2
      have hi : i < G.length := by rw [List.length_map, h.lg] at h1; exact h1
      have hg := (h.gr i (by omega) (by omega)).tk
      have hi2 : i < N.parties.length := by rw [np]; exact hi
      have hi3 : i < S.guests.length := by rw [h.lg]; exact hi
      rw [List.getElem_map, List.getElem_map]
      simp [Ngt.pa, Pl.gu, List.getD, hi2, hi3] at hg
      exact hg
  · apply List.ext_getElem
    · rw [h.lt, List.length_map, nr]
    · intro i h1 h2
      have hi : i < B.length := by rw [← h.lt]; exact h1
      have hg := (h.rt i (by omega) (by omega)).1
      have hi2 : i < N.rides.length := by rw [nr]; exact hi
      rw [← gt_nat h1, hg, List.getElem_map]
      simp [Ngt.bo, List.getD, hi2]
  · apply List.ext_getElem
    · rw [h.ll, List.length_map, nr]
    · intro i h1 h2
      have hi : i < B.length := by rw [← h.ll]; exact h1
      have hg := (h.rt i (by omega) (by omega)).2
      have hi2 : i < N.rides.length := by rw [nr]; exact hi
      rw [← gt_nat h1, hg, List.getElem_map]
      simp [Ngt.bo, List.getD, hi2]
theorem run_same (hv : Val w B G) : (Pl.run w B G 4001).homes = (Ngt.played w B G).parties.map Pty.home ∧ (Pl.run w B G 4001).guests.map Gs.tokens = (Ngt.played w B G).parties.map Pty.purse ∧
    (Pl.run w B G 4001).takes = (Ngt.played w B G).rides.map Bth.takes ∧ (Pl.run w B G 4001).lines = (Ngt.played w B G).rides.map Bth.line ∧ (Pl.run w B G 4001).visits = (Ngt.run w B G 4001).visits := by
  obtain ⟨pl, h, _, _, hp⟩ := run_rl hv 4001 (Nat.le_refl _)
  rw [played_parties, played_rides]
  obtain ⟨a, b, c, d⟩ := h.same fun g g0 g1 => (hp g g0 g1).1
  exact ⟨a, b, c, d, h.vs⟩

/-- an evening is played by the reference, and what it is in the end -/
theorem c_played_ex (he : EvR σ r B l ws G) (hv : Val w B G) : ∃ S : Pl, (S.homes = (Ngt.played w B G).parties.map Pty.home ∧ S.guests.map Gs.tokens = (Ngt.played w B G).parties.map Pty.purse ∧
    S.takes = (Ngt.played w B G).rides.map Bth.takes ∧ S.lines = (Ngt.played w B G).rides.map Bth.line ∧ S.visits = (Ngt.run w B G 4001).visits) ∧ S.visits.length ≤ 2200000 ∧ FCalls Try.prog N_ref07_played #[.agg #[r.v, .int .i64 w], l.v] σ (NewP σ ws S) :=
  ⟨_, run_same hv, Nat.le_trans (run_ok2 hv 4001 (Nat.le_refl _)).1.vl (by omega), c_played he hv⟩
/-- a list of numbers that is read, and an error -/
def OfR (σ : Hp) (c : Int) (xs : List Int) : Value → Hp → Prop := fun v σ' => ∃ s : SL, v = .tuple #[s.v, .int .i64 c] ∧ Hp.Sub σ σ' ∧ RdS [.int .i64] σ' s.A s.n (ofL c xs)
theorem OfR.err {c : Int} {xs : List Int} (h : ¬ c = 0) : OfR σ c xs (.tuple #[.slice none 0 0, .int .i64 c]) σ := ⟨⟨none, 0, 0⟩, rfl, Hp.Sub.refl _, by rw [ofL_err h]; exact (OwnSl.nil 3 [.int .i64] σ).rd⟩
theorem c_refHome (hr : EvR σ r B l ws G) (hB : B.length ≤ 4294967296) (hG : G.length ≤ 4294967296) (hW : ∀ k, (h : k < G.length) → G[k].wants.length ≤ 4294967296) : FCalls Try.prog N_ref07_Home #[.agg #[r.v, .int .i64 w], l.v] σ (OfR σ (chkQ w B G) ((Ngt.played w B G).parties.map Pty.home)) := by
  refine M_ref07_Home_ok _ _ _ _ _ _ _ _ _ ?_
  unfold M_ref07_Home
  refine clI M_ref07_Check_enter (c_refCheck hr hB hG hW) (bc_b (fun hc => ?_) (fun hc => ?_))
  · exact rt_of (OfR.err (by simpa using hc))
  · have hc : chkQ w B G = 0 := by simpa using hc
    have hv := chkQ_val hc
    obtain ⟨S, sm, _, hpl⟩ := c_played_ex hr hv
    refine cl_of M_ref07_played_enter hpl ?_
    rintro _ τ ⟨W, rfl, hS, ht⟩
    obtain ⟨v, hb⟩ := ht.pblk
    refine ⟨_, rfl, dr_i (bldS hb rfl (rt_of ⟨W.ho, by rw [hc]; rfl, ht.sub, ?_⟩))⟩
    rw [ofL_ok hc, ← sm.1]
    exact ht.ird.2.2.2.2
theorem c_refTakes (hr : EvR σ r B l ws G) (hB : B.length ≤ 4294967296) (hG : G.length ≤ 4294967296) (hW : ∀ k, (h : k < G.length) → G[k].wants.length ≤ 4294967296) : FCalls Try.prog N_ref07_Takes #[.agg #[r.v, .int .i64 w], l.v] σ (OfR σ (chkQ w B G) ((Ngt.played w B G).rides.map Bth.takes)) := by
  refine M_ref07_Takes_ok _ _ _ _ _ _ _ _ _ ?_
  unfold M_ref07_Takes
  refine clI M_ref07_Check_enter (c_refCheck hr hB hG hW) (bc_b (fun hc => ?_) (fun hc => ?_))
  · exact rt_of (OfR.err (by simpa using hc))
  · have hc : chkQ w B G = 0 := by simpa using hc
    have hv := chkQ_val hc
    obtain ⟨S, sm, _, hpl⟩ := c_played_ex hr hv
    refine cl_of M_ref07_played_enter hpl ?_
    rintro _ τ ⟨W, rfl, hS, ht⟩
    obtain ⟨v, hb⟩ := ht.pblk
    refine ⟨_, rfl, dr_i (bldS hb rfl (rt_of ⟨W.ta, by rw [hc]; rfl, ht.sub, ?_⟩))⟩
    rw [ofL_ok hc, ← sm.2.2.1]
    exact ht.ird.2.2.1
theorem c_refHeld (hr : EvR σ r B l ws G) (hB : B.length ≤ 4294967296) (hG : G.length ≤ 4294967296) (hW : ∀ k, (h : k < G.length) → G[k].wants.length ≤ 4294967296) : FCalls Try.prog N_ref07_Held #[.agg #[r.v, .int .i64 w], l.v] σ (OfR σ (chkQ w B G) ((Ngt.played w B G).parties.map Pty.purse)) := by
  refine M_ref07_Held_ok _ _ _ _ _ _ _ _ _ ?_
  unfold M_ref07_Held
  refine clI M_ref07_Check_enter (c_refCheck hr hB hG hW) (bc_b (fun hc => ?_) (fun hc => ?_))
  · exact rt_of (OfR.err (by simpa using hc))
  · have hc : chkQ w B G = 0 := by simpa using hc
    have hv := chkQ_val hc
    have hn := hv.n
    obtain ⟨S, sm, _, hpl⟩ := c_played_ex hr hv
    refine cl_of M_ref07_played_enter hpl ?_
    rintro _ τ ⟨W, rfl, hS, ht⟩
    have hsm := sm.2.1
    have hgl : S.guests.length = G.length := by
      have := congrArg List.length hsm
      rw [List.length_map, List.length_map, (played_stat w B G).len] at this
      exact this
    have hln : l.n = G.length := hr.lenL
    refine ⟨_, rfl, cut_intro fun J9 h9 => ?_⟩
    have k9 : ∀ τ', τ' = τ → J9 (S.guests.map Gs.tokens) τ' := by
      rintro τ' rfl
      rw [h9]
      intro _
      intro A11 l11 c11 σ12 ho
      refine rt_of ⟨⟨A11, l11, c11⟩, by rw [hc]; rfl, ht.sub.trans ho.sub, ?_⟩
      rw [ofL_ok hc, ← hsm]
      exact ho.rd
    refine ⟨fun m xs i τ' => ∃ k : Nat, m = G.length - k ∧ i = k ∧ k ≤ G.length ∧ xs = (S.guests.take k).map Gs.tokens ∧ τ' = τ, ⟨_, adp_nil.2 ⟨0, rfl, rfl, by omega, rfl, rfl⟩⟩, ?_⟩
    rintro m xs i τ' ⟨k, rfl, rfl, hk, rfl, rfl⟩ _
    refine bc_d (fun hlt => ?_) (fun hlt => ?_)
    · have hkl : k < G.length := by omega
      have hkg : k < S.guests.length := by omega
      obtain ⟨v, hb⟩ := ht.pblk
      have hgu : S.gu k = S.guests[k] := by simp [Pl.gu, List.getD, hkg]
      refine dr_i (bldS hb rfl (ht.gix (by omega) (by simpa using hkg) fun b o hA => ht.gI3 hA (by simpa using hkg) hgu (roomy_i ?_ (wk_i (by omega) (bk_of _ (by omega) ⟨k + 1, rfl, by omega, by omega, ?_, rfl⟩)))))
      · rw [List.length_map, List.length_take]
        show min _ _ + 1 ≤ _
        omega
      · rw [List.take_succ_eq_append_getElem hkg, List.map_append]
        rfl
    · have : k = G.length := by omega
      subst this
      rw [← hgl, List.take_length]
      exact k9 _ rfl
theorem c_sameInts {A A' : Option Addr} {n n' c c' : Nat} {xs ys : List Int} (h : RdS [.int .i64] σ A n xs) (h' : RdS [.int .i64] σ A' n' ys) (hl : xs.length ≤ 4294967296) : FCalls Try.prog N_law07_sameInts #[.slice A n c, .slice A' n' c'] σ fun v σ' => v = .bool (decide (xs = ys)) ∧ σ' = σ := by
  refine M_law07_sameInts_ok _ _ _ _ _ _ _ _ ?_
  unfold M_law07_sameInts
  have hn := h.lenI
  have hn' := h'.lenI
  refine bc_b (fun e => ?_) (fun e => ?_)
  · have e : ¬ (n : Int) = n' := by simpa using e
    refine rt_of ⟨?_, rfl⟩
    rw [decide_eq_false fun e' => e (by rw [hn, hn', e'])]
  · have e : (n : Int) = n' := by simpa using e
    refine cut_intro fun J3 h3 => ?_
    refine ⟨fun m i τ => ∃ k : Nat, m = xs.length - k ∧ i = k ∧ k ≤ xs.length ∧ τ = σ ∧ xs.take k = ys.take k, ⟨_, 0, rfl, rfl, by omega, rfl, rfl⟩, ?_⟩
    rintro m i τ ⟨k, rfl, rfl, hk, rfl, hj⟩ _
    refine bc_d (fun hlt => ?_) (fun hlt => ?_)
    · have hkl : k < xs.length := by omega
      have hkl' : k < ys.length := by omega
      refine gixg h (by omega) (by omega) (gixg h' (by omega) (by omega) ?_)
      rw [gt_nat hkl, gt_nat hkl']
      refine bc_b (fun e2 => ?_) (fun e2 => ?_)
      · have e2 : ¬ xs[k] = ys[k] := by simpa using e2
        refine rt_of ⟨?_, rfl⟩
        rw [decide_eq_false fun e' => e2 (by subst e'; rfl)]
      · have e2 : xs[k] = ys[k] := by simpa using e2
        refine wk_i (by omega) (bk_of _ (by omega) ⟨k + 1, rfl, by omega, by omega, rfl, ?_⟩)
        rw [List.take_succ_eq_append_getElem hkl, List.take_succ_eq_append_getElem hkl', hj, e2]
    · have : k = xs.length := by omega
      subst this
      rw [h3]
      intro _
      refine rt_of ⟨?_, rfl⟩
      rw [List.take_length] at hj
      have e3 : ys.take xs.length = ys := List.take_of_length_le (by omega)
      rw [decide_eq_true (hj.trans e3)]
theorem l_same {A A' : Option Addr} {n n' c c' : Nat} {xs : List Int} (h : RdS [.int .i64] σ A n xs) (h' : RdS [.int .i64] σ A' n' xs) (hl : xs.length ≤ 4294967296) {K : Bool → Hp → Prop} (hk : K true σ) : cl Try.prog (.func (.func N_law07_sameInts) #[] #[]) #[.slice A n c, .slice A' n' c'] σ fun v σ' => ∃ t : Bool, (v = .bool t ∧ K t σ') := by
  have := c_sameInts (c := c) (c' := c') h h' hl
  rw [decide_eq_true rfl] at this
  exact clB M_law07_sameInts_enter this hk
theorem ofL_len {c : Int} {xs : List Int} : (ofL c xs).length ≤ xs.length := by
  unfold ofL
  split
  · exact Nat.le_refl _
  · exact Nat.zero_le _
theorem played_plen : (Ngt.played w B G).parties.length = G.length := (played_stat w B G).len
theorem played_rlen : (Ngt.played w B G).rides.length = B.length := (played_stat w B G).1
end
end Go.Proofs.Ytgcefaikdplbkaa
