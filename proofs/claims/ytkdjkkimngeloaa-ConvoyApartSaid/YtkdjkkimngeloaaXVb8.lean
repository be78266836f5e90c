/- Trimmed by wip/trim.py to what this claim rests on. -/
import Derived.Test.YtkdjkkimngeloaaXVb7
namespace Go.Proofs.Ytkdjkkimngeloaa
open Go.RowKit
def LH (xs : List Stp) : Prop := ∀ x ∈ xs, cOK (Stp.c x)
theorem LH.perm {xs ys : List Stp} (h : LH xs) (hp : ys.Perm xs) : LH ys := fun x hx => h x (hp.mem_iff.1 hx)
theorem Tc (j : Nat) : Int.tdiv ((j : Int) - 1) 2 = (prt j : Nat) := by
  unfold prt
  cases j with
  | zero => rfl
  | succ k =>
    have e : (((k + 1 : Nat) : Int) - 1) = (k : Nat) := by omega
    rw [e, Int.tdiv_eq_ediv_of_nonneg (by omega)]
    have : k + 1 - 1 = k := by omega
    rw [this]
    omega
section
variable {σ σ' : Hp} {b : Nat} {xs : List Stp}
set_option maxRecDepth 100000 in
theorem Tz {j : Nat} (h : Stk b xs σ σ') (hc : LH xs) (hu : UpI xs xs.length j) (hj : j < xs.length) (hl : xs.length ≤ 4294967295) :
    Af Try.prog G8 #[hv b, .int .i64 j] σ' fun v σ2 => v = .tuple #[] ∧ ∃ ys, ys.Perm xs ∧ HO ys xs.length ∧ Stk b ys σ σ2 := by
  refine Fz _ _ _ _ ?_
  unfold Cm
  refine ⟨fun q i τ => ∃ (k : Nat) (ys : List Stp), q = k ∧ i = k ∧ k < xs.length ∧ ys.Perm xs ∧ UpI ys xs.length k ∧ Stk b ys σ τ, ⟨_, j, xs, rfl, rfl, hj, List.Perm.refl _, hu, h⟩, ?_⟩
  rintro q i τ ⟨k, ys, rfl, rfl, hk, hp, hu, hs⟩ _
  have hlen := hp.length_eq
  refine AT (by omega) ⟨by decide, ?_⟩
  rw [Tc]
  have hpk : prt q ≤ q := by unfold prt; omega
  refine AT (by omega) ?_
  refine Ag fun J11 h11 => Ag fun J18 h18 => ?_
  have k18 : ∀ t, (t = false ↔ 0 < q ∧ cl1 ys q (prt q)) → J18 t τ := by
    intro t ht
    rw [h18]
    intro _
    refine IU (fun e => AC ⟨rfl, ys, hp, hu.stop fun h0 hl => ?_, hs⟩) (fun e => ?_)
    · have := ht.2 ⟨h0, hl⟩
      rw [e] at this
      cases this
    · obtain ⟨h0, hlt⟩ := ht.1 e
      rw [h11]
      intro _
      refine Kv hs (by omega) (by omega) fun σ2 hs2 => BP _ (show prt q < q by unfold prt; omega) ⟨prt q, _, rfl, rfl, by omega, (ID (by omega) (by omega)).trans hp, hu.step hlen.symm h0 hk hlt, hs2⟩
  refine Bd (fun e => k18 true ?_) (fun e => ?_)
  · refine ⟨fun x => (by cases x), fun x => ?_⟩
    exfalso
    have := x.1
    unfold prt at e
    omega
  · refine Ke hs (hc.perm hp) (by omega) (by omega) ⟨_, rfl, k18 _ ?_⟩
    have h0 : 0 < q := by
      rcases Nat.eq_zero_or_pos q with e0 | e0
      · subst e0
        exact absurd rfl e
      · exact e0
    by_cases c : cl1 ys q (prt q) <;> simp [c, h0]
set_option maxRecDepth 100000 in
theorem SE {m : Nat} (h : Stk b xs σ σ') (hc : LH xs) (hd : DnI xs m 0) (hm : m ≤ xs.length) (hl : xs.length ≤ 4294967295) :
    Af Try.prog FQ #[hv b, .int .i64 0, .int .i64 m] σ' fun v σ2 => (∃ t, v = .bool t) ∧ ∃ ys, ys.Perm xs ∧ HO ys m ∧ (∀ k, m ≤ k → gs ys k = gs xs k) ∧ Stk b ys σ σ2 := by
  refine EB _ _ _ _ _ ?_
  unfold B0
  refine Ag fun J3 h3 => ?_
  refine ⟨fun q i τ => ∃ (k : Nat) (ys : List Stp), q = m - k ∧ i = k ∧ k ≤ m ∧ ys.Perm xs ∧ DnI ys m k ∧ (∀ k, m ≤ k → gs ys k = gs xs k) ∧ Stk b ys σ τ, ⟨_, 0, xs, rfl, rfl, by omega, List.Perm.refl _, hd, fun _ _ => rfl, h⟩, ?_⟩
  rintro q i τ ⟨k, ys, rfl, rfl, hk, hp, hd, he, hs⟩ _
  have hlen := hp.length_eq
  have hcy := hc.perm hp
  have k3 : HO ys m → ∀ i, J3 i τ := by
    intro ho i
    rw [h3]
    intro _
    exact AC ⟨⟨_, rfl⟩, ys, hp, ho, he, hs⟩
  refine AT (by omega) (AT (by omega) ?_)
  have ch : ∀ c, 0 < c → prt c = k → c = 2 * k + 1 ∨ c = 2 * k + 2 := fun c h0 h1 => by unfold prt at h1; omega
  have e1 : 2 * (k : Int) + 1 = ((2 * k + 1 : Nat) : Int) := by omega
  rw [e1]
  refine Ag fun J14 h14 => Ag fun J36 h36 => ?_
  have k36t : m ≤ 2 * k + 1 → J36 true τ := fun hge => by
    rw [h36]
    intro _
    exact Hu (k3 (hd.stop fun c h0 h1 h2 => by have := ch c h0 h2; omega) _)
  refine Bd (fun hge => k36t (by omega)) (fun hlt => ?_)
  rw [decide_eq_false (by omega), h36]
  intro _
  refine FC ?_
  rw [h14]
  intro _
  refine Ag fun J17 h17 => ?_
  have k17 : ∀ j : Nat, 0 < j → j < m → prt j = k → (∀ c, 0 < c → c < m → prt c = k → ¬ cl1 ys c j) → J17 j τ := by
    intro j h0 h1 h2 hmin
    rw [h17]
    intro _
    refine Ke hs hcy (by omega) (by omega) ⟨_, rfl, ?_⟩
    refine Bu (fun hn => k3 (hd.stop fun c g0 g1 g2 hlt => ?_) _) (fun hlt => ?_)
    · have := hmin c g0 g1 g2
      unfold cl1 at this hn hlt
      exact hn (RR this hlt)
    · refine Kv hs (by omega) (by omega) fun σ2 hs2 => BP _ (show m - j < m - k by unfold prt at h2; omega) ⟨j, _, rfl, rfl, by omega, (ID (by omega) (by omega)).trans hp, hd.step (by omega) h0 h1 h2 hlt hmin, fun c hc => ?_, hs2⟩
      rw [Kd (by omega) (by omega), if_neg (by omega), if_neg (by unfold prt at h2; omega)]
      exact he c hc
  have e2 : ((2 * k + 1 : Nat) : Int) + 1 = ((2 * k + 2 : Nat) : Int) := by omega
  refine AT (by omega) ?_
  rw [e2]
  refine Ag fun J29 h29 => ?_
  have p1 : prt (2 * k + 1) = k := by unfold prt; omega
  have p2 : prt (2 * k + 2) = k := by unfold prt; omega
  refine Bd (fun h2m => ?_) (fun h2m => ?_)
  · refine Ke hs hcy (by omega) (by omega) ⟨_, rfl, ?_⟩
    rw [h29]
    intro _
    refine Bd (fun hlt => k17 _ (by omega) (by omega) p2 fun c g0 g1 g2 => ?_) (fun hge => k17 _ (by omega) (by omega) p1 fun c g0 g1 g2 => ?_)
    · rcases ch c g0 g2 with rfl | rfl
      · unfold cl1 at hlt ⊢
        exact fun x => A0 (BD x hlt)
      · exact A0
    · rcases ch c g0 g2 with rfl | rfl
      · exact A0
      · exact hge
  · rw [h29]
    intro _
    refine FC (k17 _ (by omega) (by omega) p1 fun c g0 g1 g2 => ?_)
    rcases ch c g0 g2 with rfl | rfl
    · exact A0
    · omega
theorem HO.take {n : Nat} (h : HO xs n) (hn : n ≤ xs.length) : HO (xs.take n) n := fun i h0 h1 => by
  have e : ∀ k, k < n → gs (xs.take n) k = gs xs k := fun k hk => by
    rw [DD (by rw [List.length_take]; omega), DD (by omega), List.getElem_take]
  unfold cl1
  rw [e i h1, e (prt i) (by unfold prt; omega)]
  exact h i h0 h1
set_option maxRecDepth 100000 in
theorem QO {x : Stp} {K : Value → Hp → Prop} (h : Stk b xs σ σ') (hl : xs.length ≤ 4294967295) (hk : ∀ σ2, Stk b (xs ++ [x]) σ σ2 → K (.tuple #[]) σ2) : ivk Try.prog (hv b) "Push" #[.iface 156 (stV x)] σ' K := by
  refine PE Rq Ee ?_
  refine Af.mono (LY (x := x) h hl) fun v σ2 h => ?_
  obtain ⟨rfl, h2⟩ := h
  exact hk _ h2
set_option maxRecDepth 100000 in
theorem Rx {K : Value → Hp → Prop} (h : Stk b xs σ σ') (h0 : 0 < xs.length) (hl : xs.length ≤ 4294967295) (hk : ∀ σ2, Stk b (xs.take (xs.length - 1)) σ σ2 → K (.iface 156 (stV (gs xs (xs.length - 1)))) σ2) : ivk Try.prog (hv b) "Pop" #[] σ' K := by
  refine PE Rz EE ?_
  refine Af.mono (MZ h h0 hl) fun v σ2 h => ?_
  obtain ⟨rfl, h2⟩ := h
  exact hk _ h2
set_option maxRecDepth 100000 in
theorem SL {x : Stp} (h : Stk b xs σ σ') (hc : LH xs) (hx : cOK (Stp.c x)) (ho : HO xs xs.length) (hl : xs.length ≤ 4294967294) :
    Af Try.prog FR #[hv b, .iface 156 (stV x)] σ' fun v σ2 => v = .tuple #[] ∧ ∃ ys, ys.Perm (x :: xs) ∧ HO ys ys.length ∧ Stk b ys σ σ2 := by
  refine Eu _ _ _ _ ?_
  unfold B1
  refine QO h (by omega) fun σ2 h2 => OF h2 ⟨_, rfl, ?_⟩
  have hlen : (xs ++ [x]).length = xs.length + 1 := by simp
  rw [hlen]
  have e : ((xs.length + 1 : Nat) : Int) - 1 = (xs.length : Nat) := by omega
  rw [e]
  refine AT (by omega) ?_
  refine Bg Ec (Tz h2 (fun y hy => ?_) (by rw [hlen]; exact UpI.init ho rfl) (by omega) (by omega)) ?_
  · rcases List.mem_append.1 hy with hy | hy
    · exact hc y hy
    · rw [List.mem_singleton] at hy
      subst hy
      exact hx
  · rintro v σ3 ⟨rfl, ys, hp, hy, hs⟩
    refine AC ⟨rfl, ys, hp.trans (List.perm_append_comm (l₁ := xs) (l₂ := [x])), ?_, hs⟩
    rw [hp.length_eq]
    exact hy
set_option maxRecDepth 100000 in
theorem Te (h : Stk b xs σ σ') (hc : LH xs) (ho : HO xs xs.length) (h0 : 0 < xs.length) (hl : xs.length ≤ 4294967294) :
    Af Try.prog Gt #[hv b] σ' fun v σ2 => v = .iface 156 (stV (gs xs 0)) ∧ ∃ ys, (gs xs 0 :: ys).Perm xs ∧ HO ys ys.length ∧ Stk b ys σ σ2 := by
  refine E4 _ _ _ ?_
  unfold Cb
  refine OF h ⟨_, rfl, ?_⟩
  obtain ⟨m, hm⟩ : ∃ m, xs.length = m + 1 := ⟨xs.length - 1, by omega⟩
  have e : (xs.length : Int) - 1 = (m : Nat) := by omega
  rw [e]
  refine AT (by omega) ?_
  refine Kv (i := 0) (k := m) h h0 (by omega) fun σ2 h2 => ?_
  have hpz := ID (xs := xs) (i := 0) (j := m) h0 (by omega)
  refine Bg DO (SE (m := m) h2 (hc.perm hpz) (DnI.init (by rw [← hm]; exact ho) (by omega)) (by rw [JZ]; omega) (by rw [JZ]; omega)) ?_
  rintro v σ3 ⟨⟨t, rfl⟩, ys, hp, hy, he, hs⟩
  have hlen : ys.length = m + 1 := by rw [hp.length_eq, JZ, hm]
  refine ⟨_, rfl, ?_⟩
  refine Rx hs (by omega) (by omega) fun σ4 h4 => ?_
  have e2 : ys.length - 1 = m := by omega
  rw [e2] at h4 ⊢
  have e3 : gs ys m = gs xs 0 := by
    rw [he m (Nat.le_refl _), Kd h0 (by omega), if_pos rfl]
  rw [e3]
  refine ⟨_, rfl, AC ⟨rfl, _, ?_, ?_, h4⟩⟩
  · have e4 : ys = ys.take m ++ [gs xs 0] := by
      rw [← e3, DD (by omega)]
      have := List.take_succ_eq_append_getElem (l := ys) (i := m) (by omega)
      rw [← this, List.take_of_length_le (by omega)]
    have h5 : (gs xs 0 :: ys.take m).Perm ys := by
      have : (gs xs 0 :: ys.take m).Perm (ys.take m ++ [gs xs 0]) := List.perm_append_comm (l₁ := [gs xs 0]) (l₂ := ys.take m)
      rw [← e4] at this
      exact this
    exact h5.trans (hp.trans hpz)
  · rw [List.length_take]
    have : min m ys.length = m := by omega
    rw [this]
    exact hy.take (by omega)
end
end Go.Proofs.Ytkdjkkimngeloaa
