/- Trimmed by wip/trim.py to what this claim rests on. -/
import Derived.Test.YtkdjkkimngeloaaZVb7
namespace Go.Proofs.Ytkdjkkimngeloaa
open Go.RowKit
def OD (xs : List Stp) : Prop := ∀ x ∈ xs, cOK (Stp.c x)
theorem OD.perm {xs ys : List Stp} (h : OD xs) (hp : ys.Perm xs) : OD ys := fun x hx => h x (hp.mem_iff.1 hx)
theorem Wi (j : Nat) : Int.tdiv ((j : Int) - 1) 2 = (prt j : Nat) := by
  unfold prt
  cases j with
  | zero => rfl
  | succ k =>
    have e : (((k + 1 : Nat) : Int) - 1) = (k : Nat) := by omega
    rw [e, Int.tdiv_eq_ediv_of_nonneg (by omega)]
    have : k + 1 - 1 = k := by omega
    rw [this]
    omega
section
variable {σ σ' : Hp} {b : Nat} {xs : List Stp}
set_option maxRecDepth 100000 in
theorem Ww {j : Nat} (h : Stk b xs σ σ') (hc : OD xs) (hu : UpI xs xs.length j) (hj : j < xs.length) (hl : xs.length ≤ 4294967295) :
    Ag Try.prog IH #[hv b, .int .i64 j] σ' fun v σ2 => v = .tuple #[] ∧ ∃ ys, ys.Perm xs ∧ HO ys xs.length ∧ Stk b ys σ σ2 := by
  refine GT _ _ _ _ ?_
  unfold CH
  refine ⟨fun q i τ => ∃ (k : Nat) (ys : List Stp), q = k ∧ i = k ∧ k < xs.length ∧ ys.Perm xs ∧ UpI ys xs.length k ∧ Stk b ys σ τ, ⟨_, j, xs, rfl, rfl, hj, List.Perm.refl _, hu, h⟩, ?_⟩
  rintro q i τ ⟨k, ys, rfl, rfl, hk, hp, hu, hs⟩ _
  have hlen := hp.length_eq
  refine AL (by omega) ⟨by decide, ?_⟩
  rw [Wi]
  have hpk : prt q ≤ q := by unfold prt; omega
  refine AL (by omega) ?_
  refine Ad fun J11 h11 => Ad fun J18 h18 => ?_
  have k18 : ∀ t, (t = false ↔ 0 < q ∧ cl1 ys q (prt q)) → J18 t τ := by
    intro t ht
    rw [h18]
    intro _
    refine I2 (fun e => Av ⟨rfl, ys, hp, hu.stop fun h0 hl => ?_, hs⟩) (fun e => ?_)
    · have := ht.2 ⟨h0, hl⟩
      rw [e] at this
      cases this
    · obtain ⟨h0, hlt⟩ := ht.1 e
      rw [h11]
      intro _
      refine Mj hs (by omega) (by omega) fun σ2 hs2 => Bf _ (show prt q < q by unfold prt; omega) ⟨prt q, _, rfl, rfl, by omega, (KO (by omega) (by omega)).trans hp, hu.step hlen.symm h0 hk hlt, hs2⟩
  refine AK (fun e => k18 true ?_) (fun e => ?_)
  · refine ⟨fun x => (by cases x), fun x => ?_⟩
    exfalso
    have := x.1
    unfold prt at e
    omega
  · refine MX hs (hc.perm hp) (by omega) (by omega) ⟨_, rfl, k18 _ ?_⟩
    have h0 : 0 < q := by
      rcases Nat.eq_zero_or_pos q with e0 | e0
      · subst e0
        exact absurd rfl e
      · exact e0
    by_cases c : cl1 ys q (prt q) <;> simp [c, h0]
set_option maxRecDepth 100000 in
theorem VZ {m : Nat} (h : Stk b xs σ σ') (hc : OD xs) (hd : DnI xs m 0) (hm : m ≤ xs.length) (hl : xs.length ≤ 4294967295) :
    Ag Try.prog G6 #[hv b, .int .i64 0, .int .i64 m] σ' fun v σ2 => (∃ t, v = .bool t) ∧ ∃ ys, ys.Perm xs ∧ HO ys m ∧ (∀ k, m ≤ k → gs ys k = gs xs k) ∧ Stk b ys σ σ2 := by
  refine FF _ _ _ _ _ ?_
  unfold Ci
  refine Ad fun J3 h3 => ?_
  refine ⟨fun q i τ => ∃ (k : Nat) (ys : List Stp), q = m - k ∧ i = k ∧ k ≤ m ∧ ys.Perm xs ∧ DnI ys m k ∧ (∀ k, m ≤ k → gs ys k = gs xs k) ∧ Stk b ys σ τ, ⟨_, 0, xs, rfl, rfl, by omega, List.Perm.refl _, hd, fun _ _ => rfl, h⟩, ?_⟩
  rintro q i τ ⟨k, ys, rfl, rfl, hk, hp, hd, he, hs⟩ _
  have hlen := hp.length_eq
  have hcy := hc.perm hp
  have k3 : HO ys m → ∀ i, J3 i τ := by
    intro ho i
    rw [h3]
    intro _
    exact Av ⟨⟨_, rfl⟩, ys, hp, ho, he, hs⟩
  refine AL (by omega) (AL (by omega) ?_)
  have ch : ∀ c, 0 < c → prt c = k → c = 2 * k + 1 ∨ c = 2 * k + 2 := fun c h0 h1 => by unfold prt at h1; omega
  have e1 : 2 * (k : Int) + 1 = ((2 * k + 1 : Nat) : Int) := by omega
  rw [e1]
  refine Ad fun J14 h14 => Ad fun J36 h36 => ?_
  have k36t : m ≤ 2 * k + 1 → J36 true τ := fun hge => by
    rw [h36]
    intro _
    exact Ef (k3 (hd.stop fun c h0 h1 h2 => by have := ch c h0 h2; omega) _)
  refine AK (fun hge => k36t (by omega)) (fun hlt => ?_)
  rw [decide_eq_false (by omega), h36]
  intro _
  refine Dw ?_
  rw [h14]
  intro _
  refine Ad fun J17 h17 => ?_
  have k17 : ∀ j : Nat, 0 < j → j < m → prt j = k → (∀ c, 0 < c → c < m → prt c = k → ¬ cl1 ys c j) → J17 j τ := by
    intro j h0 h1 h2 hmin
    rw [h17]
    intro _
    refine MX hs hcy (by omega) (by omega) ⟨_, rfl, ?_⟩
    refine Bj (fun hn => k3 (hd.stop fun c g0 g1 g2 hlt => ?_) _) (fun hlt => ?_)
    · have := hmin c g0 g1 g2
      unfold cl1 at this hn hlt
      exact hn (Ul this hlt)
    · refine Mj hs (by omega) (by omega) fun σ2 hs2 => Bf _ (show m - j < m - k by unfold prt at h2; omega) ⟨j, _, rfl, rfl, by omega, (KO (by omega) (by omega)).trans hp, hd.step (by omega) h0 h1 h2 hlt hmin, fun c hc => ?_, hs2⟩
      rw [L9 (by omega) (by omega), if_neg (by omega), if_neg (by unfold prt at h2; omega)]
      exact he c hc
  have e2 : ((2 * k + 1 : Nat) : Int) + 1 = ((2 * k + 2 : Nat) : Int) := by omega
  refine AL (by omega) ?_
  rw [e2]
  refine Ad fun J29 h29 => ?_
  have p1 : prt (2 * k + 1) = k := by unfold prt; omega
  have p2 : prt (2 * k + 2) = k := by unfold prt; omega
  refine AK (fun h2m => ?_) (fun h2m => ?_)
  · refine MX hs hcy (by omega) (by omega) ⟨_, rfl, ?_⟩
    rw [h29]
    intro _
    refine AK (fun hlt => k17 _ (by omega) (by omega) p2 fun c g0 g1 g2 => ?_) (fun hge => k17 _ (by omega) (by omega) p1 fun c g0 g1 g2 => ?_)
    · rcases ch c g0 g2 with rfl | rfl
      · unfold cl1 at hlt ⊢
        exact fun x => Bs (BQ x hlt)
      · exact Bs
    · rcases ch c g0 g2 with rfl | rfl
      · exact Bs
      · exact hge
  · rw [h29]
    intro _
    refine Dw (k17 _ (by omega) (by omega) p1 fun c g0 g1 g2 => ?_)
    rcases ch c g0 g2 with rfl | rfl
    · exact Bs
    · omega
theorem HO.take {n : Nat} (h : HO xs n) (hn : n ≤ xs.length) : HO (xs.take n) n := fun i h0 h1 => by
  have e : ∀ k, k < n → gs (xs.take n) k = gs xs k := fun k hk => by
    rw [D9 (by rw [List.length_take]; omega), D9 (by omega), List.getElem_take]
  unfold cl1
  rw [e i h1, e (prt i) (by unfold prt; omega)]
  exact h i h0 h1
set_option maxRecDepth 100000 in
theorem SD {x : Stp} {K : Value → Hp → Prop} (h : Stk b xs σ σ') (hl : xs.length ≤ 4294967295) (hk : ∀ σ2, Stk b (xs ++ [x]) σ σ2 → K (.tuple #[]) σ2) : ivk Try.prog (hv b) "Push" #[.iface 156 (stV x)] σ' K := by
  refine Sm T4 EZ ?_
  refine Ag.mono (Oz (x := x) h hl) fun v σ2 h => ?_
  obtain ⟨rfl, h2⟩ := h
  exact hk _ h2
set_option maxRecDepth 100000 in
theorem UK {K : Value → Hp → Prop} (h : Stk b xs σ σ') (h0 : 0 < xs.length) (hl : xs.length ≤ 4294967295) (hk : ∀ σ2, Stk b (xs.take (xs.length - 1)) σ σ2 → K (.iface 156 (stV (gs xs (xs.length - 1)))) σ2) : ivk Try.prog (hv b) "Pop" #[] σ' K := by
  refine Sm UF Fs ?_
  refine Ag.mono (PM h h0 hl) fun v σ2 h => ?_
  obtain ⟨rfl, h2⟩ := h
  exact hk _ h2
set_option maxRecDepth 100000 in
theorem Vg {x : Stp} (h : Stk b xs σ σ') (hc : OD xs) (hx : cOK (Stp.c x)) (ho : HO xs xs.length) (hl : xs.length ≤ 4294967294) :
    Ag Try.prog Hf #[hv b, .iface 156 (stV x)] σ' fun v σ2 => v = .tuple #[] ∧ ∃ ys, ys.Perm (x :: xs) ∧ HO ys ys.length ∧ Stk b ys σ σ2 := by
  refine Fx _ _ _ _ ?_
  unfold Cl
  refine SD h (by omega) fun σ2 h2 => Rf h2 ⟨_, rfl, ?_⟩
  have hlen : (xs ++ [x]).length = xs.length + 1 := by simp
  rw [hlen]
  have e : ((xs.length + 1 : Nat) : Int) - 1 = (xs.length : Nat) := by omega
  rw [e]
  refine AL (by omega) ?_
  refine AV ES (Ww h2 (fun y hy => ?_) (by rw [hlen]; exact UpI.init ho rfl) (by omega) (by omega)) ?_
  · rcases List.mem_append.1 hy with hy | hy
    · exact hc y hy
    · rw [List.mem_singleton] at hy
      subst hy
      exact hx
  · rintro v σ3 ⟨rfl, ys, hp, hy, hs⟩
    refine Av ⟨rfl, ys, hp.trans (List.perm_append_comm (l₁ := xs) (l₂ := [x])), ?_, hs⟩
    rw [hp.length_eq]
    exact hy
set_option maxRecDepth 100000 in
theorem Wq (h : Stk b xs σ σ') (hc : OD xs) (ho : HO xs xs.length) (h0 : 0 < xs.length) (hl : xs.length ≤ 4294967294) :
    Ag Try.prog Hm #[hv b] σ' fun v σ2 => v = .iface 156 (stV (gs xs 0)) ∧ ∃ ys, (gs xs 0 :: ys).Perm xs ∧ HO ys ys.length ∧ Stk b ys σ σ2 := by
  refine F0 _ _ _ ?_
  unfold Co
  refine Rf h ⟨_, rfl, ?_⟩
  obtain ⟨m, hm⟩ : ∃ m, xs.length = m + 1 := ⟨xs.length - 1, by omega⟩
  have e : (xs.length : Int) - 1 = (m : Nat) := by omega
  rw [e]
  refine AL (by omega) ?_
  refine Mj (i := 0) (k := m) h h0 (by omega) fun σ2 h2 => ?_
  have hpz := KO (xs := xs) (i := 0) (j := m) h0 (by omega)
  refine AV Ek (VZ (m := m) h2 (hc.perm hpz) (DnI.init (by rw [← hm]; exact ho) (by omega)) (by rw [Mo]; omega) (by rw [Mo]; omega)) ?_
  rintro v σ3 ⟨⟨t, rfl⟩, ys, hp, hy, he, hs⟩
  have hlen : ys.length = m + 1 := by rw [hp.length_eq, Mo, hm]
  refine ⟨_, rfl, ?_⟩
  refine UK hs (by omega) (by omega) fun σ4 h4 => ?_
  have e2 : ys.length - 1 = m := by omega
  rw [e2] at h4 ⊢
  have e3 : gs ys m = gs xs 0 := by
    rw [he m (Nat.le_refl _), L9 h0 (by omega), if_pos rfl]
  rw [e3]
  refine ⟨_, rfl, Av ⟨rfl, _, ?_, ?_, h4⟩⟩
  · have e4 : ys = ys.take m ++ [gs xs 0] := by
      rw [← e3, D9 (by omega)]
      have := List.take_succ_eq_append_getElem (l := ys) (i := m) (by omega)
      rw [← this, List.take_of_length_le (by omega)]
    have h5 : (gs xs 0 :: ys.take m).Perm ys := by
      have : (gs xs 0 :: ys.take m).Perm (ys.take m ++ [gs xs 0]) := List.perm_append_comm (l₁ := [gs xs 0]) (l₂ := ys.take m)
      rw [← e4] at this
      exact this
    exact h5.trans (hp.trans hpz)
  · rw [List.length_take]
    have : min m ys.length = m := by omega
    rw [this]
    exact hy.take (by omega)
end
end Go.Proofs.Ytkdjkkimngeloaa
