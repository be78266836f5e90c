/- Trimmed by wip/trim.py to what this claim rests on. -/
import Derived.Test.YtkdjkkimngeloaaYVd4
namespace Go.Proofs.Ytkdjkkimngeloaa
open Go.RowKit
structure Btr (m m' : Mp) : Prop where
  p : ∀ i : Int, gbp m.pk i = true → gbp m'.pk i = true
  k : m.rs.length ≤ m'.rs.length
  r : ∀ i (_ : i < m.rs.length) (_ : i < m'.rs.length), m'.rs[i].1 = m.rs[i].1 ∧ m'.rs[i].2.1 = m.rs[i].2.1 ∧ m'.rs[i].2.2.1 = m.rs[i].2.2.1 ∧ m.rs[i].2.2.2.1 ≤ m'.rs[i].2.2.2.1 ∧ m.rs[i].2.2.2.2 ≤ m'.rs[i].2.2.2.2
theorem Btr.rd {m m' : Mp} (h : Btr m m') {i : Int} (hi : 0 ≤ i ∧ i < m.rs.length) : (Aw m' i).1 = (Aw m i).1 ∧ (Aw m' i).2.1 = (Aw m i).2.1 ∧ (Aw m' i).2.2.1 = (Aw m i).2.2.1 ∧ (Aw m i).2.2.2.1 ≤ (Aw m' i).2.2.2.1 ∧ (Aw m i).2.2.2.2 ≤ (Aw m' i).2.2.2.2 := by
  have hk := h.k
  have h1 : i.toNat < m.rs.length := by omega
  have h2 : i.toNat < m'.rs.length := by omega
  rw [J9 h1, J9 h2]
  exact h.r _ h1 h2
theorem Btr.jw {m m' : Mp} {l : Lry} {C : Std → Leg → Prop} (hm : BH m) (h : Btr m m') : ∀ {j : List Leg} {s t s' : Std}, s.tn = t.tn → s.sn = t.sn → t.dv ≤ s.dv → 0 ≤ s.dv → Jw m l C s j s' → ∃ t', Jw m' l Qg t j t' ∧ t'.tn = s'.tn ∧ t'.sn = s'.sn
  | [], s, t, s', e1, e2, e3, _, hj => by
    have hj : s = s' := hj
    subst hj
    exact ⟨t, rfl, e1.symm, e2.symm⟩
  | x :: j, s, t, s', e1, e2, e3, hdv, ⟨a, _, s1, c, d⟩ => by
    obtain ⟨c1, c2, c3, c4, rfl⟩ := Da.1 c
    obtain ⟨r1, r2, r3, r4, r5⟩ := h.rd a
    have hk := h.k
    · have hd : Br m' l t x ≤ Br m l s x := by
        unfold Br
        rw [← e1, ← e2]
        by_cases g : gbp m.pk s.tn = true ∧ l.rst ≤ x.2 - s.sn
        · rw [if_pos g, if_pos ⟨h.p _ g.1, g.2⟩]
          exact Int.le_refl _
        · rw [if_neg g]
          split <;> omega
      obtain ⟨t', h1, h2, h3⟩ := Btr.jw hm h (s := ⟨(Aw m x.1).1 + (Aw m x.1).2.1 - s.tn, x.2 + (Aw m x.1).2.2.1, Br m l s x + (Aw m x.1).2.2.1⟩) (t := ⟨(Aw m' x.1).1 + (Aw m' x.1).2.1 - t.tn, x.2 + (Aw m' x.1).2.2.1, Br m' l t x + (Aw m' x.1).2.2.1⟩) (by show _ + _ - s.tn = _ + _ - t.tn; rw [e1, r1, r2]) (by show _ + _ = _ + _; rw [r3]) (by show Br m' l t x + _ ≤ Br m l s x + _; omega) (by
        have h0 : 0 ≤ Br m l s x := by unfold Br; split <;> omega
        obtain ⟨_, _, _, q, _⟩ := hm.rd a
        show 0 ≤ Br m l s x + _
        omega) d
      exact ⟨t', ⟨⟨a.1, by have := a.2; omega⟩, trivial, _, Da.2 ⟨by rw [← e1, r1, r2]; exact c1, ⟨Int.le_trans c2.1 r4, Int.le_trans c2.2 r5⟩, by rw [← e2]; exact c3, by omega, rfl⟩, h1⟩, h2, h3⟩
theorem Btr.reach {m m' : Mp} {l : Lry} (hm : BH m) (hl : A0 m l) (hm' : BH m') (hl' : A0 m' l) (h : Btr m m') {t : Int} {c : Cst} (hs : Sn m l t c) : ¬ Non m' l t ∧ ∀ c', Sn m' l t c' → c'.1 ≤ c.1 := by
  obtain ⟨⟨p, hp, j, s, hj, rfl, rfl⟩, _⟩ := hs
  obtain ⟨t', h1, h2, h3⟩ := h.jw hm (t := bgn l) rfl rfl (Int.le_refl _) (Int.le_refl _) hj
  obtain ⟨g1, g2⟩ := QS hm' hl' h1
  have hp : s.tn = t := hp
  rw [h2, hp] at g1 g2
  refine ⟨g1, fun c' hc' => ?_⟩
  have := g2 c' hc'
  show c'.1 ≤ s.sn - l.rdy
  omega
end Go.Proofs.Ytkdjkkimngeloaa
