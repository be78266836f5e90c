/- Trimmed by wip/trim.py to what this claim rests on. -/
import Derived.Test.YtkdjkkimngeloaaXVd2
import Derived.Test.YtkdjkkimngeloaaXVe3
import Derived.Test.YtkdjkkimngeloaaXVa6
namespace Go.Proofs.Ytkdjkkimngeloaa
open Go.RowKit
theorem Bst.len {m : Mp} {l : Lry} {t a : Int} {js : List Leg} (hm : Br m) (hl : AQ m l) (h : Bst m l t (a, js)) : js.length ≤ 4294967296 := by
  have h1 := (h.short hm hl).1
  have h2 : (m.pk.length + 1) * m.pk.length ≤ 13 * 12 := Nat.mul_le_mul (by have := hm.n; omega) hm.n.2
  omega
section
variable {σ : Hp}
theorem RM {l : Lry} : Ae Try.prog Ij #[l.v] σ fun v σ' => ∃ A n c, v = .slice A n c ∧ Au 27 sL σ A n c [l.t] σ' := by
  refine Jo _ _ _ _ _ _ _ _ ?_
  intro A n c σ2 ho
  exact Az ⟨A, n, c, rfl, ho⟩
theorem PB {A : Option Addr} {n : Nat} {xs : List LrT} {i : Int} {K : Int → Prop} (h : RdS sL σ A n xs) (hi : 0 ≤ i) (hn : i.toNat < xs.length) (hk : K xs[i.toNat].2.2.2.2.1) :
    ix A n i 6 fun b a => ldI σ .i64 b (a + 4) K := by
  refine JU (ss := sL) h rfl hi hn fun b o hc => ?_
  exact Bu (hc 4 (by decide)) hk
def IA (m : Mp) (ls : List LrT) : Bool := Mh m || decide (5 < m.pk.length) || decide (8 < m.rs.length) || decide (12 < ls.length) || ls.any fun t => decide (60 < t.2.2.2.2.1 ∧ t.2.2.2.2.1 ≤ 500)
theorem Qj {m : Mp} {ls : List LrT} (h : IA m ls = false) : Mh m = false ∧ m.pk.length ≤ 5 ∧ m.rs.length ≤ 8 ∧ ls.length ≤ 12 ∧ ∀ t ∈ ls, ¬ (60 < t.2.2.2.2.1 ∧ t.2.2.2.2.1 ≤ 500) := by
  unfold IA at h
  simp only [Bool.or_eq_false_iff, decide_eq_false_iff_not] at h
  obtain ⟨⟨⟨⟨a, b⟩, c⟩, d⟩, e⟩ := h
  exact ⟨a, by omega, by omega, by omega, fun t ht => by simpa using List.any_eq_false.1 e t ht⟩
set_option maxRecDepth 20000 in
theorem Qa {w : MW} {m : Mp} {A : Option Addr} {n c : Nat} {ls : List LrT} (h : MIn σ w m) (hl : RdS sL σ A n ls) : Ae Try.prog Gl #[w.v, .slice A n c] σ fun v σ' => v = .bool (IA m ls) ∧ σ' = σ := by
  refine H6 _ _ _ _ _ _ _ _ _ _ _ ?_
  unfold D7
  have hpn := h.pn
  have hrn := h.rn
  have hn := hl.lenL
  refine Ah fun J3 h3 => Ah fun J30 h30 => ?_
  have kt : IA m ls = true → J30 true σ := fun e => by
    rw [h30]
    intro _
    exact Gi (Az ⟨by rw [e], rfl⟩)
  refine clB Hj (RL h) (ID (fun ef => kt (by unfold IA; rw [ef]; rfl)) (fun ef => ?_))
  refine Bq (fun e5 => kt ?_) (fun e5 => ?_)
  · unfold IA
    rw [decide_eq_true (show 5 < m.pk.length by omega)]
    simp
  refine Bq (fun e8 => kt ?_) (fun e8 => ?_)
  · unfold IA
    rw [decide_eq_true (show 8 < m.rs.length by omega)]
    simp
  by_cases e12 : (12 : Int) < (n : Int)
  · rw [decide_eq_true e12]
    refine kt ?_
    unfold IA
    rw [decide_eq_true (show 12 < ls.length by omega)]
    simp
  rw [decide_eq_false e12, h30]
  clear h30 kt J30
  intro _
  refine Et ?_
  rw [h3]
  clear h3 J3
  intro _
  have e0 : IA m ls = ls.any fun t => decide (60 < t.2.2.2.2.1 ∧ t.2.2.2.2.1 ≤ 500) := by
    unfold IA
    rw [ef, decide_eq_false (show ¬ 5 < m.pk.length by omega), decide_eq_false (show ¬ 8 < m.rs.length by omega), decide_eq_false (show ¬ 12 < ls.length by omega)]
    rfl
  rw [e0]
  refine Ah fun J6 h6 => ?_
  refine ⟨fun q i τ => ∃ k : Nat, q = ls.length - k ∧ i = k ∧ k ≤ ls.length ∧ τ = σ ∧ ∀ j (_ : j < ls.length), j < k → ¬ (60 < ls[j].2.2.2.2.1 ∧ ls[j].2.2.2.2.1 ≤ 500), ⟨_, 0, rfl, rfl, Nat.zero_le _, rfl, fun j _ hj => absurd hj (Nat.not_lt_zero _)⟩, ?_⟩
  rintro q i τ ⟨k, rfl, rfl, hk, rfl, hx⟩ _
  refine Bq (fun hlt => ?_) (fun hge => ?_)
  · have hkl : k < ls.length := by omega
    refine Ah fun J14 h14 => Ah fun J20 h20 => ?_
    have kt : (60 < ls[k].2.2.2.2.1 ∧ ls[k].2.2.2.2.1 ≤ 500) → J20 true τ := fun e => by
      rw [h20]
      intro _
      refine Gi (Az ⟨?_, rfl⟩)
      rw [List.any_eq_true.2 ⟨ls[k], List.getElem_mem hkl, decide_eq_true e⟩]
    have kf : ¬ (60 < ls[k].2.2.2.2.1 ∧ ls[k].2.2.2.2.1 ≤ 500) → J20 false τ := fun e => by
      rw [h20]
      intro _
      refine Et ?_
      rw [h14]
      intro _
      refine Bh (by omega) (CA _ (by omega) ⟨k + 1, rfl, rfl, by omega, rfl, fun j hj hjk => ?_⟩)
      by_cases ej : j = k
      · subst ej
        exact e
      · exact hx j hj (by omega)
    refine PB hl (by omega) (by simpa using hkl) ?_
    simp only [Int.toNat_natCast]
    refine Bq (fun g1 => ?_) (fun g1 => kf fun g => g1 g.1)
    refine PB hl (by omega) (by simpa using hkl) ?_
    simp only [Int.toNat_natCast]
    by_cases g2 : ls[k].2.2.2.2.1 ≤ 500
    · rw [decide_eq_true g2]
      exact kt ⟨g1, g2⟩
    · rw [decide_eq_false g2]
      exact kf fun g => g2 g.2
  · rw [h6]
    intro _
    refine Az ⟨?_, rfl⟩
    have : (ls.any fun t => decide (60 < t.2.2.2.2.1 ∧ t.2.2.2.2.1 ≤ 500)) = false := by
      refine List.any_eq_false.2 fun t ht => ?_
      obtain ⟨j, hj, rfl⟩ := List.mem_iff_getElem.1 ht
      simpa using hx j hj (by omega)
    rw [this]
theorem OK {w : MW} {m : Mp} {l : Lry} {K : Bool → Hp → Prop} (h : MIn σ w m) (hk : ∀ σ', Hp.Sub σ σ' → K (IA m [l.t]) σ') :
    cl Try.prog (.func (.func Ij) #[] #[]) #[l.v] σ fun v1 σ2 => ∃ A3 : Option Addr, ∃ l3 : Nat, ∃ c3 : Nat, (v1 = (.slice A3 l3 c3) ∧ (Hp.Sub σ σ2 ∧ cl Try.prog (.func (.func Gl) #[] #[]) #[w.v, .slice A3 l3 c3] σ2 fun v4 σ5 => ∃ t6 : Bool, (v4 = (.bool t6) ∧ K t6 σ5))) := by
  refine Bl G8 RM ?_
  rintro v σ2 ⟨A, n, c, rfl, ho⟩
  exact ⟨_, _, _, rfl, ho.sub, clB F5 (Qa (h.up ho.sub) ho.rd) (hk _ ho.sub)⟩
end
end Go.Proofs.Ytkdjkkimngeloaa
