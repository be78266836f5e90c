/- Trimmed by wip/trim.py to what this claim rests on. -/
import Derived.Test.YtkdjkkimngeloaaYVd2
import Derived.Test.YtkdjkkimngeloaaYVe3
import Derived.Test.YtkdjkkimngeloaaYVa6
namespace Go.Proofs.Ytkdjkkimngeloaa
open Go.RowKit
section
variable {σ : Hp}
theorem Se {A : Option Addr} {n : Nat} {xs : List LrT} {i : Int} {K : Int → Prop} (h : RdS sL σ A n xs) (hi : 0 ≤ i) (hn : i.toNat < xs.length) (hk : K xs[i.toNat].2.2.2.2.1) :
    ix A n i 6 fun b a => ldI σ .i64 b (a + 4) K := by
  refine Gx (ss := sL) h rfl hi hn fun b o hc => ?_
  exact Bu (hc 4 (by decide)) hk
def Mi (m : Mp) (ls : List LrT) : Bool := Oe m || decide (5 < m.pk.length) || decide (8 < m.rs.length) || decide (12 < ls.length) || ls.any fun t => decide (60 < t.2.2.2.2.1 ∧ t.2.2.2.2.1 ≤ 500)
theorem TA {m : Mp} {ls : List LrT} (h : Mi m ls = false) : Oe m = false ∧ m.pk.length ≤ 5 ∧ m.rs.length ≤ 8 ∧ ls.length ≤ 12 ∧ ∀ t ∈ ls, ¬ (60 < t.2.2.2.2.1 ∧ t.2.2.2.2.1 ≤ 500) := by
  unfold Mi at h
  simp only [Bool.or_eq_false_iff, decide_eq_false_iff_not] at h
  obtain ⟨⟨⟨⟨a, b⟩, c⟩, d⟩, e⟩ := h
  exact ⟨a, by omega, by omega, by omega, fun t ht => by simpa using List.any_eq_false.1 e t ht⟩
set_option maxRecDepth 20000 in
theorem TY {w : MW} {m : Mp} {A : Option Addr} {n c : Nat} {ls : List LrT} (h : MIn σ w m) (hl : RdS sL σ A n ls) : Ah Try.prog Ml #[w.v, .slice A n c] σ fun v σ' => v = .bool (Mi m ls) ∧ σ' = σ := by
  refine Kn _ _ _ _ _ _ _ _ _ _ _ ?_
  unfold Fd
  have hpn := h.pn
  have hrn := h.rn
  have hn := hl.lenL
  refine Ai fun J3 h3 => Ai fun J30 h30 => ?_
  have kt : Mi m ls = true → J30 true σ := fun e => by
    rw [h30]
    intro _
    exact FB (Ay ⟨by rw [e], rfl⟩)
  refine clB IX (U2 h) (JS (fun ef => kt (by unfold Mi; rw [ef]; rfl)) (fun ef => ?_))
  refine Bc (fun e5 => kt ?_) (fun e5 => ?_)
  · unfold Mi
    rw [decide_eq_true (show 5 < m.pk.length by omega)]
    simp
  refine Bc (fun e8 => kt ?_) (fun e8 => ?_)
  · unfold Mi
    rw [decide_eq_true (show 8 < m.rs.length by omega)]
    simp
  by_cases e12 : (12 : Int) < (n : Int)
  · rw [decide_eq_true e12]
    refine kt ?_
    unfold Mi
    rw [decide_eq_true (show 12 < ls.length by omega)]
    simp
  rw [decide_eq_false e12, h30]
  clear h30 kt J30
  intro _
  refine Et ?_
  rw [h3]
  clear h3 J3
  intro _
  have e0 : Mi m ls = ls.any fun t => decide (60 < t.2.2.2.2.1 ∧ t.2.2.2.2.1 ≤ 500) := by
    unfold Mi
    rw [ef, decide_eq_false (show ¬ 5 < m.pk.length by omega), decide_eq_false (show ¬ 8 < m.rs.length by omega), decide_eq_false (show ¬ 12 < ls.length by omega)]
    rfl
  rw [e0]
  refine Ai fun J6 h6 => ?_
  refine ⟨fun q i τ => ∃ k : Nat, q = ls.length - k ∧ i = k ∧ k ≤ ls.length ∧ τ = σ ∧ ∀ j (_ : j < ls.length), j < k → ¬ (60 < ls[j].2.2.2.2.1 ∧ ls[j].2.2.2.2.1 ≤ 500), ⟨_, 0, rfl, rfl, Nat.zero_le _, rfl, fun j _ hj => absurd hj (Nat.not_lt_zero _)⟩, ?_⟩
  rintro q i τ ⟨k, rfl, rfl, hk, rfl, hx⟩ _
  refine Bc (fun hlt => ?_) (fun hge => ?_)
  · have hkl : k < ls.length := by omega
    refine Ai fun J14 h14 => Ai fun J20 h20 => ?_
    have kt : (60 < ls[k].2.2.2.2.1 ∧ ls[k].2.2.2.2.1 ≤ 500) → J20 true τ := fun e => by
      rw [h20]
      intro _
      refine FB (Ay ⟨?_, rfl⟩)
      rw [List.any_eq_true.2 ⟨ls[k], List.getElem_mem hkl, decide_eq_true e⟩]
    have kf : ¬ (60 < ls[k].2.2.2.2.1 ∧ ls[k].2.2.2.2.1 ≤ 500) → J20 false τ := fun e => by
      rw [h20]
      intro _
      refine Et ?_
      rw [h14]
      intro _
      refine AU (by omega) (Bs _ (by omega) ⟨k + 1, rfl, rfl, by omega, rfl, fun j hj hjk => ?_⟩)
      by_cases ej : j = k
      · subst ej
        exact e
      · exact hx j hj (by omega)
    refine Se hl (by omega) (by simpa using hkl) ?_
    simp only [Int.toNat_natCast]
    refine Bc (fun g1 => ?_) (fun g1 => kf fun g => g1 g.1)
    refine Se hl (by omega) (by simpa using hkl) ?_
    simp only [Int.toNat_natCast]
    by_cases g2 : ls[k].2.2.2.2.1 ≤ 500
    · rw [decide_eq_true g2]
      exact kt ⟨g1, g2⟩
    · rw [decide_eq_false g2]
      exact kf fun g => g2 g.2
  · rw [h6]
    intro _
    refine Ay ⟨?_, rfl⟩
    have : (ls.any fun t => decide (60 < t.2.2.2.2.1 ∧ t.2.2.2.2.1 ≤ 500)) = false := by
      refine List.any_eq_false.2 fun t ht => ?_
      obtain ⟨j, hj, rfl⟩ := List.mem_iff_getElem.1 ht
      simpa using hx j hj (by omega)
    rw [this]
set_option maxRecDepth 20000 in
theorem P1 {A A' : Option Addr} {n n' c c' : Nat} {xs ys : List Int} (h : RdS [.int .i64] σ A n xs) (h' : RdS [.int .i64] σ A' n' ys) (hl : xs.length ≤ 4294967296) : Ah Try.prog Kp #[.slice A n c, .slice A' n' c'] σ fun v σ' => v = .bool (decide (xs = ys)) ∧ σ' = σ := by
  refine HQ _ _ _ _ _ _ _ _ ?_
  unfold DA
  have hn : n = xs.length := h.1
  have hn' : n' = ys.length := h'.1
  refine Bl (fun e => Ay ⟨?_, rfl⟩) (fun e => ?_)
  · rw [decide_eq_false fun g => e (by rw [hn, hn', g])]
  refine Ai fun J3 h3 => ?_
  refine ⟨fun q i τ => ∃ k : Nat, q = xs.length - k ∧ i = k ∧ k ≤ xs.length ∧ τ = σ ∧ ∀ j (_ : j < xs.length) (_ : j < ys.length), j < k → xs[j] = ys[j], ⟨_, 0, rfl, rfl, Nat.zero_le _, rfl, fun j _ _ hj => absurd hj (Nat.not_lt_zero _)⟩, ?_⟩
  rintro q i τ ⟨k, rfl, rfl, hk, rfl, hx⟩ _
  refine Bc (fun hlt => ?_) (fun hge => ?_)
  · have hkl : k < xs.length := by omega
    have hkl' : k < ys.length := by omega
    refine Ea h (by omega) (by simpa using hkl) (Ea h' (by omega) (by simpa using hkl') ?_)
    simp only [Int.toNat_natCast]
    refine Bl (fun g => Ay ⟨?_, rfl⟩) (fun g => AU (by omega) (Bs _ (by omega) ⟨k + 1, rfl, rfl, by omega, rfl, fun j h1 h2 hjk => ?_⟩))
    · rw [decide_eq_false fun g2 => g (by subst g2; rfl)]
    · by_cases ej : j = k
      · subst ej
        exact g
      · exact hx j h1 h2 (by omega)
  · rw [h3]
    intro _
    refine Ay ⟨?_, rfl⟩
    rw [decide_eq_true (List.ext_getElem (by omega) fun i h1 h2 => hx i h1 h2 (by omega))]
set_option maxRecDepth 20000 in
theorem Ps {A A' : Option Addr} {n n' c c' : Nat} {xs ys : List Leg} (h : RdS sJ σ A n xs) (h' : RdS sJ σ A' n' ys) (hl : xs.length ≤ 4294967296) : Ah Try.prog Kf #[.slice A n c, .slice A' n' c'] σ fun v σ' => v = .bool (decide (xs = ys)) ∧ σ' = σ := by
  refine HT _ _ _ _ _ _ _ _ ?_
  unfold Dz
  have hn := h.lenJ
  have hn' := h'.lenJ
  refine Bl (fun e => Ay ⟨?_, rfl⟩) (fun e => ?_)
  · rw [decide_eq_false fun g => e (by rw [hn, hn', g])]
  refine Ai fun J3 h3 => ?_
  refine ⟨fun q i τ => ∃ k : Nat, q = xs.length - k ∧ i = k ∧ k ≤ xs.length ∧ τ = σ ∧ ∀ j (_ : j < xs.length) (_ : j < ys.length), j < k → xs[j] = ys[j], ⟨_, 0, rfl, rfl, Nat.zero_le _, rfl, fun j _ _ hj => absurd hj (Nat.not_lt_zero _)⟩, ?_⟩
  rintro q i τ ⟨k, rfl, rfl, hk, rfl, hx⟩ _
  refine Bc (fun hlt => ?_) (fun hge => ?_)
  · have hkl : k < xs.length := by omega
    have hkl' : k < ys.length := by omega
    refine Sc h (by omega) (by simpa using hkl) (Sc h' (by omega) (by simpa using hkl') ?_)
    simp only [Int.toNat_natCast]
    by_cases g : xs[k] = ys[k]
    · have e1 : (!(decide (xs[k].1 = ys[k].1) && decide (xs[k].2 = ys[k].2))) = false := by rw [g]; simp
      rw [e1]
      refine Et (AU (by omega) (Bs _ (by omega) ⟨k + 1, rfl, rfl, by omega, rfl, fun j h1 h2 hjk => ?_⟩))
      by_cases ej : j = k
      · subst ej
        exact g
      · exact hx j h1 h2 (by omega)
    · have e1 : (!(decide (xs[k].1 = ys[k].1) && decide (xs[k].2 = ys[k].2))) = true := by
        rw [Bool.not_eq_true', ← Bool.not_eq_true]
        intro hh
        rw [Bool.and_eq_true, decide_eq_true_eq, decide_eq_true_eq] at hh
        exact g (Prod.ext hh.1 hh.2)
      rw [e1]
      refine FB (Ay ⟨?_, rfl⟩)
      rw [decide_eq_false fun g2 => g (by subst g2; rfl)]
  · rw [h3]
    intro _
    refine Ay ⟨?_, rfl⟩
    rw [decide_eq_true (List.ext_getElem (by omega) fun i h1 h2 => hx i h1 h2 (by omega))]
end
end Go.Proofs.Ytkdjkkimngeloaa
