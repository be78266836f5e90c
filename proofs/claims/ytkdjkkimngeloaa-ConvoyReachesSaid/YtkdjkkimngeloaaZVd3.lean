/- Trimmed by wip/trim.py to what this claim rests on. -/
import Derived.Test.YtkdjkkimngeloaaZVd2
import Derived.Test.YtkdjkkimngeloaaZVe3
import Derived.Test.YtkdjkkimngeloaaZVa6
namespace Go.Proofs.Ytkdjkkimngeloaa
open Go.RowKit
section
variable {σ : Hp}
theorem SO {l : Lry} : Ae Try.prog I1 #[l.v] σ fun v σ' => ∃ A n c, v = .slice A n c ∧ AA 27 sL σ A n c [l.t] σ' := by
  refine Kn _ _ _ _ _ _ _ _ ?_
  intro A n c σ2 ho
  exact Az ⟨A, n, c, rfl, ho⟩
theorem QX {A : Option Addr} {n : Nat} {xs : List LrT} {i : Int} {K : Int → Prop} (h : RdS sL σ A n xs) (hi : 0 ≤ i) (hn : i.toNat < xs.length) (hk : K xs[i.toNat].2.2.2.2.1) :
    ix A n i 6 fun b a => ldI σ .i64 b (a + 4) K := by
  refine GQ (ss := sL) h rfl hi hn fun b o hc => ?_
  exact AZ (hc 4 (by decide)) hk
def JO (m : Mp) (ls : List LrT) : Bool := M1 m || decide (5 < m.pk.length) || decide (8 < m.rs.length) || decide (12 < ls.length) || ls.any fun t => decide (60 < t.2.2.2.2.1 ∧ t.2.2.2.2.1 ≤ 500)
theorem Rd {m : Mp} {ls : List LrT} (h : JO m ls = false) : M1 m = false ∧ m.pk.length ≤ 5 ∧ m.rs.length ≤ 8 ∧ ls.length ≤ 12 ∧ ∀ t ∈ ls, ¬ (60 < t.2.2.2.2.1 ∧ t.2.2.2.2.1 ≤ 500) := by
  unfold JO at h
  simp only [Bool.or_eq_false_iff, decide_eq_false_iff_not] at h
  obtain ⟨⟨⟨⟨a, b⟩, c⟩, d⟩, e⟩ := h
  exact ⟨a, by omega, by omega, by omega, fun t ht => by simpa using List.any_eq_false.1 e t ht⟩
set_option maxRecDepth 20000 in
theorem Rs {w : MW} {m : Mp} {A : Option Addr} {n c : Nat} {ls : List LrT} (h : MIn σ w m) (hl : RdS sL σ A n ls) : Ae Try.prog GS #[w.v, .slice A n c] σ fun v σ' => v = .bool (JO m ls) ∧ σ' = σ := by
  refine Ii _ _ _ _ _ _ _ _ _ _ _ ?_
  unfold D5
  have hpn := h.pn
  have hrn := h.rn
  have hn := hl.lenL
  refine Ag fun J3 h3 => Ag fun J30 h30 => ?_
  have kt : JO m ls = true → J30 true σ := fun e => by
    rw [h30]
    intro _
    exact Fh (Az ⟨by rw [e], rfl⟩)
  refine clB Hm (S0 h) (Ib (fun ef => kt (by unfold JO; rw [ef]; rfl)) (fun ef => ?_))
  refine Ba (fun e5 => kt ?_) (fun e5 => ?_)
  · unfold JO
    rw [decide_eq_true (show 5 < m.pk.length by omega)]
    simp
  refine Ba (fun e8 => kt ?_) (fun e8 => ?_)
  · unfold JO
    rw [decide_eq_true (show 8 < m.rs.length by omega)]
    simp
  by_cases e12 : (12 : Int) < (n : Int)
  · rw [decide_eq_true e12]
    refine kt ?_
    unfold JO
    rw [decide_eq_true (show 12 < ls.length by omega)]
    simp
  rw [decide_eq_false e12, h30]
  clear h30 kt J30
  intro _
  refine EM ?_
  rw [h3]
  clear h3 J3
  intro _
  have e0 : JO m ls = ls.any fun t => decide (60 < t.2.2.2.2.1 ∧ t.2.2.2.2.1 ≤ 500) := by
    unfold JO
    rw [ef, decide_eq_false (show ¬ 5 < m.pk.length by omega), decide_eq_false (show ¬ 8 < m.rs.length by omega), decide_eq_false (show ¬ 12 < ls.length by omega)]
    rfl
  rw [e0]
  refine Ag fun J6 h6 => ?_
  refine ⟨fun q i τ => ∃ k : Nat, q = ls.length - k ∧ i = k ∧ k ≤ ls.length ∧ τ = σ ∧ ∀ j (_ : j < ls.length), j < k → ¬ (60 < ls[j].2.2.2.2.1 ∧ ls[j].2.2.2.2.1 ≤ 500), ⟨_, 0, rfl, rfl, Nat.zero_le _, rfl, fun j _ hj => absurd hj (Nat.not_lt_zero _)⟩, ?_⟩
  rintro q i τ ⟨k, rfl, rfl, hk, rfl, hx⟩ _
  refine Ba (fun hlt => ?_) (fun hge => ?_)
  · have hkl : k < ls.length := by omega
    refine Ag fun J14 h14 => Ag fun J20 h20 => ?_
    have kt : (60 < ls[k].2.2.2.2.1 ∧ ls[k].2.2.2.2.1 ≤ 500) → J20 true τ := fun e => by
      rw [h20]
      intro _
      refine Fh (Az ⟨?_, rfl⟩)
      rw [List.any_eq_true.2 ⟨ls[k], List.getElem_mem hkl, decide_eq_true e⟩]
    have kf : ¬ (60 < ls[k].2.2.2.2.1 ∧ ls[k].2.2.2.2.1 ≤ 500) → J20 false τ := fun e => by
      rw [h20]
      intro _
      refine EM ?_
      rw [h14]
      intro _
      refine AR (by omega) (BC _ (by omega) ⟨k + 1, rfl, rfl, by omega, rfl, fun j hj hjk => ?_⟩)
      by_cases ej : j = k
      · subst ej
        exact e
      · exact hx j hj (by omega)
    refine QX hl (by omega) (by simpa using hkl) ?_
    simp only [Int.toNat_natCast]
    refine Ba (fun g1 => ?_) (fun g1 => kf fun g => g1 g.1)
    refine QX hl (by omega) (by simpa using hkl) ?_
    simp only [Int.toNat_natCast]
    by_cases g2 : ls[k].2.2.2.2.1 ≤ 500
    · rw [decide_eq_true g2]
      exact kt ⟨g1, g2⟩
    · rw [decide_eq_false g2]
      exact kf fun g => g2 g.2
  · rw [h6]
    intro _
    refine Az ⟨?_, rfl⟩
    have : (ls.any fun t => decide (60 < t.2.2.2.2.1 ∧ t.2.2.2.2.1 ≤ 500)) = false := by
      refine List.any_eq_false.2 fun t ht => ?_
      obtain ⟨j, hj, rfl⟩ := List.mem_iff_getElem.1 ht
      simpa using hx j hj (by omega)
    rw [this]
theorem PT {w : MW} {m : Mp} {l : Lry} {K : Bool → Hp → Prop} (h : MIn σ w m) (hk : ∀ σ', Hp.Sub σ σ' → K (JO m [l.t]) σ') :
    cl Try.prog (.func (.func I1) #[] #[]) #[l.v] σ fun v1 σ2 => ∃ A3 : Option Addr, ∃ l3 : Nat, ∃ c3 : Nat, (v1 = (.slice A3 l3 c3) ∧ (Hp.Sub σ σ2 ∧ cl Try.prog (.func (.func GS) #[] #[]) #[w.v, .slice A3 l3 c3] σ2 fun v4 σ5 => ∃ t6 : Bool, (v4 = (.bool t6) ∧ K t6 σ5))) := by
  refine Bp HK SO ?_
  rintro v σ2 ⟨A, n, c, rfl, ho⟩
  exact ⟨_, _, _, rfl, ho.sub, clB GI (Rs (h.up ho.sub) ho.rd) (hk _ ho.sub)⟩
set_option maxRecDepth 20000 in
theorem Nv {A A' : Option Addr} {n n' c c' : Nat} {xs ys : List Int} (h : RdS [.int .i64] σ A n xs) (h' : RdS [.int .i64] σ A' n' ys) (hl : xs.length ≤ 4294967296) : Ae Try.prog Ij #[.slice A n c, .slice A' n' c'] σ fun v σ' => v = .bool (decide (xs = ys)) ∧ σ' = σ := by
  refine GJ _ _ _ _ _ _ _ _ ?_
  unfold CW
  have hn : n = xs.length := h.1
  have hn' : n' = ys.length := h'.1
  refine Bx (fun e => Az ⟨?_, rfl⟩) (fun e => ?_)
  · rw [decide_eq_false fun g => e (by rw [hn, hn', g])]
  refine Ag fun J3 h3 => ?_
  refine ⟨fun q i τ => ∃ k : Nat, q = xs.length - k ∧ i = k ∧ k ≤ xs.length ∧ τ = σ ∧ ∀ j (_ : j < xs.length) (_ : j < ys.length), j < k → xs[j] = ys[j], ⟨_, 0, rfl, rfl, Nat.zero_le _, rfl, fun j _ _ hj => absurd hj (Nat.not_lt_zero _)⟩, ?_⟩
  rintro q i τ ⟨k, rfl, rfl, hk, rfl, hx⟩ _
  refine Ba (fun hlt => ?_) (fun hge => ?_)
  · have hkl : k < xs.length := by omega
    have hkl' : k < ys.length := by omega
    refine LS h (by omega) (by simpa using hkl) (LS h' (by omega) (by simpa using hkl') ?_)
    simp only [Int.toNat_natCast]
    refine Bx (fun g => Az ⟨?_, rfl⟩) (fun g => AR (by omega) (BC _ (by omega) ⟨k + 1, rfl, rfl, by omega, rfl, fun j h1 h2 hjk => ?_⟩))
    · rw [decide_eq_false fun g2 => g (by subst g2; rfl)]
    · by_cases ej : j = k
      · subst ej
        exact g
      · exact hx j h1 h2 (by omega)
  · rw [h3]
    intro _
    refine Az ⟨?_, rfl⟩
    rw [decide_eq_true (List.ext_getElem (by omega) fun i h1 h2 => hx i h1 h2 (by omega))]
end
end Go.Proofs.Ytkdjkkimngeloaa
