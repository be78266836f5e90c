/- Trimmed by wip/trim.py to what this claim rests on. -/
import Derived.Test.YtkdjkkimngeloaaXVd2
import Derived.Test.YtkdjkkimngeloaaXVe3
import Derived.Test.YtkdjkkimngeloaaXVa6
namespace Go.Proofs.Ytkdjkkimngeloaa
open Go.RowKit
section
variable {σ : Hp}
theorem Qi {A : Option Addr} {n : Nat} {xs : List LrT} {i : Int} {K : Int → Prop} (h : RdS sL σ A n xs) (hi : 0 ≤ i) (hn : i.toNat < xs.length) (hk : K xs[i.toNat].2.2.2.2.1) :
    ix A n i 6 fun b a => ldI σ .i64 b (a + 4) K := by
  refine Hd (ss := sL) h rfl hi hn fun b o hc => ?_
  exact BA (hc 4 (by decide)) hk
def KI (m : Mp) (ls : List LrT) : Bool := NQ m || decide (5 < m.pk.length) || decide (8 < m.rs.length) || decide (12 < ls.length) || ls.any fun t => decide (60 < t.2.2.2.2.1 ∧ t.2.2.2.2.1 ≤ 500)
theorem RY {m : Mp} {ls : List LrT} (h : KI m ls = false) : NQ m = false ∧ m.pk.length ≤ 5 ∧ m.rs.length ≤ 8 ∧ ls.length ≤ 12 ∧ ∀ t ∈ ls, ¬ (60 < t.2.2.2.2.1 ∧ t.2.2.2.2.1 ≤ 500) := by
  unfold KI at h
  simp only [Bool.or_eq_false_iff, decide_eq_false_iff_not] at h
  obtain ⟨⟨⟨⟨a, b⟩, c⟩, d⟩, e⟩ := h
  exact ⟨a, by omega, by omega, by omega, fun t ht => by simpa using List.any_eq_false.1 e t ht⟩
set_option maxRecDepth 20000 in
theorem RM {w : MW} {m : Mp} {A : Option Addr} {n c : Nat} {ls : List LrT} (h : MIn σ w m) (hl : RdS sL σ A n ls) : Af Try.prog KN #[w.v, .slice A n c] σ fun v σ' => v = .bool (KI m ls) ∧ σ' = σ := by
  refine IW _ _ _ _ _ _ _ _ _ _ _ ?_
  unfold EG
  have hpn := h.pn
  have hrn := h.rn
  have hn := hl.lenL
  refine Ag fun J3 h3 => Ag fun J30 h30 => ?_
  have kt : KI m ls = true → J30 true σ := fun e => by
    rw [h30]
    intro _
    exact Hu (AC ⟨by rw [e], rfl⟩)
  refine clB H2 (Ts h) (IU (fun ef => kt (by unfold KI; rw [ef]; rfl)) (fun ef => ?_))
  refine Bd (fun e5 => kt ?_) (fun e5 => ?_)
  · unfold KI
    rw [decide_eq_true (show 5 < m.pk.length by omega)]
    simp
  refine Bd (fun e8 => kt ?_) (fun e8 => ?_)
  · unfold KI
    rw [decide_eq_true (show 8 < m.rs.length by omega)]
    simp
  by_cases e12 : (12 : Int) < (n : Int)
  · rw [decide_eq_true e12]
    refine kt ?_
    unfold KI
    rw [decide_eq_true (show 12 < ls.length by omega)]
    simp
  rw [decide_eq_false e12, h30]
  clear h30 kt J30
  intro _
  refine FC ?_
  rw [h3]
  clear h3 J3
  intro _
  have e0 : KI m ls = ls.any fun t => decide (60 < t.2.2.2.2.1 ∧ t.2.2.2.2.1 ≤ 500) := by
    unfold KI
    rw [ef, decide_eq_false (show ¬ 5 < m.pk.length by omega), decide_eq_false (show ¬ 8 < m.rs.length by omega), decide_eq_false (show ¬ 12 < ls.length by omega)]
    rfl
  rw [e0]
  refine Ag fun J6 h6 => ?_
  refine ⟨fun q i τ => ∃ k : Nat, q = ls.length - k ∧ i = k ∧ k ≤ ls.length ∧ τ = σ ∧ ∀ j (_ : j < ls.length), j < k → ¬ (60 < ls[j].2.2.2.2.1 ∧ ls[j].2.2.2.2.1 ≤ 500), ⟨_, 0, rfl, rfl, Nat.zero_le _, rfl, fun j _ hj => absurd hj (Nat.not_lt_zero _)⟩, ?_⟩
  rintro q i τ ⟨k, rfl, rfl, hk, rfl, hx⟩ _
  refine Bd (fun hlt => ?_) (fun hge => ?_)
  · have hkl : k < ls.length := by omega
    refine Ag fun J14 h14 => Ag fun J20 h20 => ?_
    have kt : (60 < ls[k].2.2.2.2.1 ∧ ls[k].2.2.2.2.1 ≤ 500) → J20 true τ := fun e => by
      rw [h20]
      intro _
      refine Hu (AC ⟨?_, rfl⟩)
      rw [List.any_eq_true.2 ⟨ls[k], List.getElem_mem hkl, decide_eq_true e⟩]
    have kf : ¬ (60 < ls[k].2.2.2.2.1 ∧ ls[k].2.2.2.2.1 ≤ 500) → J20 false τ := fun e => by
      rw [h20]
      intro _
      refine FC ?_
      rw [h14]
      intro _
      refine AT (by omega) (BP _ (by omega) ⟨k + 1, rfl, rfl, by omega, rfl, fun j hj hjk => ?_⟩)
      by_cases ej : j = k
      · subst ej
        exact e
      · exact hx j hj (by omega)
    refine Qi hl (by omega) (by simpa using hkl) ?_
    simp only [Int.toNat_natCast]
    refine Bd (fun g1 => ?_) (fun g1 => kf fun g => g1 g.1)
    refine Qi hl (by omega) (by simpa using hkl) ?_
    simp only [Int.toNat_natCast]
    by_cases g2 : ls[k].2.2.2.2.1 ≤ 500
    · rw [decide_eq_true g2]
      exact kt ⟨g1, g2⟩
    · rw [decide_eq_false g2]
      exact kf fun g => g2 g.2
  · rw [h6]
    intro _
    refine AC ⟨?_, rfl⟩
    have : (ls.any fun t => decide (60 < t.2.2.2.2.1 ∧ t.2.2.2.2.1 ≤ 500)) = false := by
      refine List.any_eq_false.2 fun t ht => ?_
      obtain ⟨j, hj, rfl⟩ := List.mem_iff_getElem.1 ht
      simpa using hx j hj (by omega)
    rw [this]
end
end Go.Proofs.Ytkdjkkimngeloaa
