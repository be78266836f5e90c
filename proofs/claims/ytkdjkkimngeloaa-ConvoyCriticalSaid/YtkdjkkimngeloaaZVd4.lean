/- Trimmed by wip/trim.py to what this claim rests on. -/
import Derived.Test.YtkdjkkimngeloaaZVd3
namespace Go.Proofs.Ytkdjkkimngeloaa
open Go.RowKit
theorem Sq {m : Mp} {l : Lry} {j : List Leg} (h : (Ke m l j).2.2.2 = 0) : MpS m ∧ AU m l ∧ j.length ≤ 60 ∧ (∀ x ∈ j, GK m x ∧ 0 ≤ x.2 ∧ x.2 ≤ 100000) ∧ Ke m l j = wlk m l (bgn l) 0 j := by
  have e0 : eC m [l] = 0 := by
    by_cases e : eC m [l] = 0
    · exact e
    · unfold Ke at h
      rw [if_neg e] at h
      exact absurd h e
  obtain ⟨hm, hl⟩ := Sg e0
  have e1 : Ke m l j = jrn m l j := by unfold Ke; rw [if_pos e0]
  rw [e1] at h ⊢
  unfold jrn at h ⊢
  by_cases h60 : 60 < j.length
  · rw [if_pos h60] at h
    cases h
  rw [if_neg h60] at h ⊢
  by_cases hb : 0 ≤ KS (D2 m) j
  · rw [if_pos hb] at h
    cases h
  rw [if_neg hb]
  refine ⟨hm, hl, by omega, fun x hx => ?_, rfl⟩
  have ha : j.any (D2 m) = false := by
    rw [← Nh]
    exact decide_eq_false hb
  exact NL (by have := List.any_eq_false.1 ha x hx; simpa using this)
theorem Rz {m : Mp} {l : Lry} {C : Std → Leg → Prop} : ∀ {j : List Leg} {s s' : Std} {i : Int}, Jw m l C s j s' → wlk m l s i j = (s'.tn, s'.sn, 0, 0)
  | [], s, s', i, h => by
    have h : s = s' := h
    subst h
    rfl
  | x :: j, s, s', i, ⟨_, _, s1, c, d⟩ => by
    show (match go1 m l s x with | some s1 => wlk m l s1 (i + 1) j | none => (0, 0, i, 92)) = _
    rw [c]
    exact Rz d
theorem QI {m : Mp} {l : Lry} : ∀ {j : List Leg} {s : Std} {i : Int}, (∀ x ∈ j, GK m x) → (wlk m l s i j).2.2.2 = 0 → ∃ s', Jw m l Qv s j s'
  | [], s, _, _, _ => ⟨s, rfl⟩
  | x :: j, s, i, hx, h => by
    have h : (match go1 m l s x with | some s1 => wlk m l s1 (i + 1) j | none => (0, 0, i, 92)).2.2.2 = 0 := h
    cases hg : go1 m l s x with
    | none =>
      rw [hg] at h
      cases h
    | some s1 =>
      rw [hg] at h
      obtain ⟨s', h1⟩ := QI (fun y hy => hx y (List.mem_cons_of_mem _ hy)) h
      exact ⟨s', hx x (List.mem_cons_self ..), trivial, s1, hg, h1⟩
theorem SN {m : Mp} {l : Lry} {j : List Leg} (h : (Ke m l j).2.2.2 = 0) : MpS m ∧ AU m l ∧ ∃ s, Jw m l Qv (bgn l) j s ∧ Ke m l j = (s.tn, s.sn, 0, 0) := by
  obtain ⟨hm, hl, _, h4, h5⟩ := Sq h
  rw [h5] at h
  obtain ⟨s, h6⟩ := QI (fun x hx => (h4 x hx).1) h
  exact ⟨hm, hl, s, h6, by rw [h5, Rz h6]⟩
theorem RI {m : Mp} {l : Lry} {j : List Leg} {s : Std} (hm : BA m) (hl : AU m l) (h : Jw m l Qv (bgn l) j s) : ¬ Non m l s.tn ∧ ∀ c, Sn m l s.tn c → l.rdy + c.1 ≤ s.sn := by
  obtain ⟨j', s', h1, h2, h3, h4, h5⟩ := SK hm hl _ j s rfl h
  refine ⟨fun hn => hn (s'.tn, s'.dv) _ h2 ⟨j', s', h1, rfl, rfl⟩, fun c hc => ?_⟩
  have := hc.2 (s'.tn, s'.dv) _ h2 ⟨j', s', h1, rfl, rfl⟩
  unfold clt at this
  dsimp only at this
  omega
end Go.Proofs.Ytkdjkkimngeloaa
