/- Trimmed by wip/trim.py to what this claim rests on. -/
import Derived.Test.YtkdjkkimngeloaaZVd2
import Derived.Test.YtkdjkkimngeloaaZVe3
import Derived.Test.YtkdjkkimngeloaaZVa6
namespace Go.Proofs.Ytkdjkkimngeloaa
open Go.RowKit
section
variable {σ : Hp}
theorem Tl {A : Option Addr} {n : Nat} {xs : List LrT} {i : Int} {K : Int → Prop} (h : RdS sL σ A n xs) (hi : 0 ≤ i) (hn : i.toNat < xs.length) (hk : K xs[i.toNat].2.2.2.2.1) :
    ix A n i 6 fun b a => ldI σ .i64 b (a + 4) K := by
  refine HU (ss := sL) h rfl hi hn fun b o hc => ?_
  exact Br (hc 4 (by decide)) hk
def L4 (m : Mp) (ls : List LrT) : Bool := Ql m || decide (5 < m.pk.length) || decide (8 < m.rs.length) || decide (12 < ls.length) || ls.any fun t => decide (60 < t.2.2.2.2.1 ∧ t.2.2.2.2.1 ≤ 500)
theorem Uv {m : Mp} {ls : List LrT} (h : L4 m ls = false) : Ql m = false ∧ m.pk.length ≤ 5 ∧ m.rs.length ≤ 8 ∧ ls.length ≤ 12 ∧ ∀ t ∈ ls, ¬ (60 < t.2.2.2.2.1 ∧ t.2.2.2.2.1 ≤ 500) := by
  unfold L4 at h
  simp only [Bool.or_eq_false_iff, decide_eq_false_iff_not] at h
  obtain ⟨⟨⟨⟨a, b⟩, c⟩, d⟩, e⟩ := h
  exact ⟨a, by omega, by omega, by omega, fun t ht => by simpa using List.any_eq_false.1 e t ht⟩
set_option maxRecDepth 20000 in
theorem UP {w : MW} {m : Mp} {A : Option Addr} {n c : Nat} {ls : List LrT} (h : MIn σ w m) (hl : RdS sL σ A n ls) : Ag Try.prog M9 #[w.v, .slice A n c] σ fun v σ' => v = .bool (L4 m ls) ∧ σ' = σ := by
  refine KY _ _ _ _ _ _ _ _ _ _ _ ?_
  unfold FG
  have hpn := h.pn
  have hrn := h.rn
  have hn := hl.lenL
  refine Ad fun J3 h3 => Ad fun J30 h30 => ?_
  have kt : L4 m ls = true → J30 true σ := fun e => by
    rw [h30]
    intro _
    exact Ef (Av ⟨by rw [e], rfl⟩)
  refine clB JS (Wf h) (I2 (fun ef => kt (by unfold L4; rw [ef]; rfl)) (fun ef => ?_))
  refine AK (fun e5 => kt ?_) (fun e5 => ?_)
  · unfold L4
    rw [decide_eq_true (show 5 < m.pk.length by omega)]
    simp
  refine AK (fun e8 => kt ?_) (fun e8 => ?_)
  · unfold L4
    rw [decide_eq_true (show 8 < m.rs.length by omega)]
    simp
  by_cases e12 : (12 : Int) < (n : Int)
  · rw [decide_eq_true e12]
    refine kt ?_
    unfold L4
    rw [decide_eq_true (show 12 < ls.length by omega)]
    simp
  rw [decide_eq_false e12, h30]
  clear h30 kt J30
  intro _
  refine Dw ?_
  rw [h3]
  clear h3 J3
  intro _
  have e0 : L4 m ls = ls.any fun t => decide (60 < t.2.2.2.2.1 ∧ t.2.2.2.2.1 ≤ 500) := by
    unfold L4
    rw [ef, decide_eq_false (show ¬ 5 < m.pk.length by omega), decide_eq_false (show ¬ 8 < m.rs.length by omega), decide_eq_false (show ¬ 12 < ls.length by omega)]
    rfl
  rw [e0]
  refine Ad fun J6 h6 => ?_
  refine ⟨fun q i τ => ∃ k : Nat, q = ls.length - k ∧ i = k ∧ k ≤ ls.length ∧ τ = σ ∧ ∀ j (_ : j < ls.length), j < k → ¬ (60 < ls[j].2.2.2.2.1 ∧ ls[j].2.2.2.2.1 ≤ 500), ⟨_, 0, rfl, rfl, Nat.zero_le _, rfl, fun j _ hj => absurd hj (Nat.not_lt_zero _)⟩, ?_⟩
  rintro q i τ ⟨k, rfl, rfl, hk, rfl, hx⟩ _
  refine AK (fun hlt => ?_) (fun hge => ?_)
  · have hkl : k < ls.length := by omega
    refine Ad fun J14 h14 => Ad fun J20 h20 => ?_
    have kt : (60 < ls[k].2.2.2.2.1 ∧ ls[k].2.2.2.2.1 ≤ 500) → J20 true τ := fun e => by
      rw [h20]
      intro _
      refine Ef (Av ⟨?_, rfl⟩)
      rw [List.any_eq_true.2 ⟨ls[k], List.getElem_mem hkl, decide_eq_true e⟩]
    have kf : ¬ (60 < ls[k].2.2.2.2.1 ∧ ls[k].2.2.2.2.1 ≤ 500) → J20 false τ := fun e => by
      rw [h20]
      intro _
      refine Dw ?_
      rw [h14]
      intro _
      refine AL (by omega) (Bf _ (by omega) ⟨k + 1, rfl, rfl, by omega, rfl, fun j hj hjk => ?_⟩)
      by_cases ej : j = k
      · subst ej
        exact e
      · exact hx j hj (by omega)
    refine Tl hl (by omega) (by simpa using hkl) ?_
    simp only [Int.toNat_natCast]
    refine AK (fun g1 => ?_) (fun g1 => kf fun g => g1 g.1)
    refine Tl hl (by omega) (by simpa using hkl) ?_
    simp only [Int.toNat_natCast]
    by_cases g2 : ls[k].2.2.2.2.1 ≤ 500
    · rw [decide_eq_true g2]
      exact kt ⟨g1, g2⟩
    · rw [decide_eq_false g2]
      exact kf fun g => g2 g.2
  · rw [h6]
    intro _
    refine Av ⟨?_, rfl⟩
    have : (ls.any fun t => decide (60 < t.2.2.2.2.1 ∧ t.2.2.2.2.1 ≤ 500)) = false := by
      refine List.any_eq_false.2 fun t ht => ?_
      obtain ⟨j, hj, rfl⟩ := List.mem_iff_getElem.1 ht
      simpa using hx j hj (by omega)
    rw [this]
set_option maxRecDepth 20000 in
theorem QE {A A' : Option Addr} {n n' c c' : Nat} {xs ys : List Int} (h : RdS [.int .i64] σ A n xs) (h' : RdS [.int .i64] σ A' n' ys) (hl : xs.length ≤ 4294967296) : Ag Try.prog KX #[.slice A n c, .slice A' n' c'] σ fun v σ' => v = .bool (decide (xs = ys)) ∧ σ' = σ := by
  refine IA _ _ _ _ _ _ _ _ ?_
  unfold DB
  have hn : n = xs.length := h.1
  have hn' : n' = ys.length := h'.1
  refine Bj (fun e => Av ⟨?_, rfl⟩) (fun e => ?_)
  · rw [decide_eq_false fun g => e (by rw [hn, hn', g])]
  refine Ad fun J3 h3 => ?_
  refine ⟨fun q i τ => ∃ k : Nat, q = xs.length - k ∧ i = k ∧ k ≤ xs.length ∧ τ = σ ∧ ∀ j (_ : j < xs.length) (_ : j < ys.length), j < k → xs[j] = ys[j], ⟨_, 0, rfl, rfl, Nat.zero_le _, rfl, fun j _ _ hj => absurd hj (Nat.not_lt_zero _)⟩, ?_⟩
  rintro q i τ ⟨k, rfl, rfl, hk, rfl, hx⟩ _
  refine AK (fun hlt => ?_) (fun hge => ?_)
  · have hkl : k < xs.length := by omega
    have hkl' : k < ys.length := by omega
    refine BP h (by omega) (by simpa using hkl) (BP h' (by omega) (by simpa using hkl') ?_)
    simp only [Int.toNat_natCast]
    refine Bj (fun g => Av ⟨?_, rfl⟩) (fun g => AL (by omega) (Bf _ (by omega) ⟨k + 1, rfl, rfl, by omega, rfl, fun j h1 h2 hjk => ?_⟩))
    · rw [decide_eq_false fun g2 => g (by subst g2; rfl)]
    · by_cases ej : j = k
      · subst ej
        exact g
      · exact hx j h1 h2 (by omega)
  · rw [h3]
    intro _
    refine Av ⟨?_, rfl⟩
    rw [decide_eq_true (List.ext_getElem (by omega) fun i h1 h2 => hx i h1 h2 (by omega))]
end
end Go.Proofs.Ytkdjkkimngeloaa
