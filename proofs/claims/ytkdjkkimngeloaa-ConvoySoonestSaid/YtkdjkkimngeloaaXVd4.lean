/- Trimmed by wip/trim.py to what this claim rests on. -/
import Derived.Test.YtkdjkkimngeloaaXVd3
namespace Go.Proofs.Ytkdjkkimngeloaa
open Go.RowKit
theorem P8 {m : Mp} {l : Lry} {j : List Leg} (h : (GA m l j).2.2.2 = 0) : MpS m ∧ AQ m l ∧ j.length ≤ 60 ∧ (∀ x ∈ j, GX m x ∧ 0 ≤ x.2 ∧ x.2 ≤ 100000) ∧ GA m l j = wlk m l (bgn l) 0 j := by
  have e0 : eC m [l] = 0 := by
    by_cases e : eC m [l] = 0
    · exact e
    · unfold GA at h
      rw [if_neg e] at h
      exact absurd h e
  obtain ⟨hm, hl⟩ := NS e0
  have e1 : GA m l j = jrn m l j := by unfold GA; rw [if_pos e0]
  rw [e1] at h ⊢
  unfold jrn at h ⊢
  by_cases h60 : 60 < j.length
  · rw [if_pos h60] at h
    cases h
  rw [if_neg h60] at h ⊢
  by_cases hb : 0 ≤ Jy (C7 m) j
  · rw [if_pos hb] at h
    cases h
  rw [if_neg hb]
  refine ⟨hm, hl, by omega, fun x hx => ?_, rfl⟩
  have ha : j.any (C7 m) = false := by
    rw [← Lw]
    exact decide_eq_false hb
  exact Lu (by have := List.any_eq_false.1 ha x hx; simpa using this)
theorem Mk {m : Mp} {l : Lry} {C : Std → Leg → Prop} : ∀ {j : List Leg} {s s' : Std} {i : Int}, Jw m l C s j s' → wlk m l s i j = (s'.tn, s'.sn, 0, 0)
  | [], s, s', i, h => by
    have h : s = s' := h
    subst h
    rfl
  | x :: j, s, s', i, ⟨_, _, s1, c, d⟩ => by
    show (match go1 m l s x with | some s1 => wlk m l s1 (i + 1) j | none => (0, 0, i, 92)) = _
    rw [c]
    exact Mk d
theorem OR {m : Mp} {l : Lry} : ∀ {j : List Leg} {s : Std} {i : Int}, (∀ x ∈ j, GX m x) → (wlk m l s i j).2.2.2 = 0 → ∃ s', Jw m l NY s j s'
  | [], s, _, _, _ => ⟨s, rfl⟩
  | x :: j, s, i, hx, h => by
    have h : (match go1 m l s x with | some s1 => wlk m l s1 (i + 1) j | none => (0, 0, i, 92)).2.2.2 = 0 := h
    cases hg : go1 m l s x with
    | none =>
      rw [hg] at h
      cases h
    | some s1 =>
      rw [hg] at h
      obtain ⟨s', h1⟩ := OR (fun y hy => hx y (List.mem_cons_of_mem _ hy)) h
      exact ⟨s', hx x (List.mem_cons_self ..), trivial, s1, hg, h1⟩
theorem Qb {m : Mp} {l : Lry} {j : List Leg} (h : (GA m l j).2.2.2 = 0) : MpS m ∧ AQ m l ∧ ∃ s, Jw m l NY (bgn l) j s ∧ GA m l j = (s.tn, s.sn, 0, 0) := by
  obtain ⟨hm, hl, _, h4, h5⟩ := P8 h
  rw [h5] at h
  obtain ⟨s, h6⟩ := OR (fun x hx => (h4 x hx).1) h
  exact ⟨hm, hl, s, h6, by rw [h5, Mk h6]⟩
theorem Rs {m : Mp} {l : Lry} {j : List Leg} {s : Std} (hm : Br m) (hl : AQ m l) (h : Jw m l NY (bgn l) j s) : ¬ Non m l s.tn ∧ ∀ c, Sn m l s.tn c → l.rdy + c.1 ≤ s.sn := by
  obtain ⟨j', s', h1, h2, h3, h4, h5⟩ := Nt hm hl _ j s rfl h
  refine ⟨fun hn => hn (s'.tn, s'.dv) _ h2 ⟨j', s', h1, rfl, rfl⟩, fun c hc => ?_⟩
  have := hc.2 (s'.tn, s'.dv) _ h2 ⟨j', s', h1, rfl, rfl⟩
  unfold clt at this
  dsimp only at this
  omega
theorem Bst.chk {m : Mp} {l : Lry} {t a : Int} {js : List Leg} (he : eC m [l] = 0) (hn : m.pk.length ≤ 5) (h : Bst m l t (a, js)) : GA m l js = (t, a, 0, 0) := by
  obtain ⟨hm, hl⟩ := NS he
  obtain ⟨h1, h2, h3, h4⟩ := h.short hm.ok hl
  have h5 : (m.pk.length + 1) * m.pk.length ≤ 6 * 5 := Nat.mul_le_mul (by omega) hn
  have hy := hl.y
  unfold GA
  rw [if_pos he]
  unfold jrn
  rw [if_neg (by omega), if_neg]
  · obtain ⟨s, g1, g2, g3, _⟩ := h
    rw [Mk g1, g2, g3]
  · rw [HF]
    · decide
    · intro i hi
      obtain ⟨k1, k2, k3⟩ := h2 _ (List.getElem_mem hi)
      have k1 : 0 ≤ js[i].1 ∧ js[i].1 < m.rs.length := k1
      unfold C7
      rw [decide_eq_true ⟨k1, k2, by omega⟩]
      rfl
theorem Rb {m : Mp} {l : Lry} {t : Int} : eT m [l] t ≠ 3 := by
  have h : eC m [l] = 0 ∨ eC m [l] = 90 ∨ eC m [l] = 91 := by
    unfold eC
    split
    · split
      · exact .inl rfl
      · exact .inr (.inr rfl)
    · exact .inr (.inl rfl)
  rw [QL]
  by_cases e : eC m [l] = 0
  · rw [if_pos e]
    split <;> decide
  · rw [if_neg e]
    omega
theorem Rw {m : Mp} {l : Lry} {t : Int} (h : eT m [l] t = 0) : eC m [l] = 0 := by
  rw [QL] at h
  by_cases e : eC m [l] = 0
  · exact e
  · rw [if_neg e] at h
    exact absurd h e
end Go.Proofs.Ytkdjkkimngeloaa
