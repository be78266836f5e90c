/- Trimmed by wip/trim.py to what this claim rests on. -/
import Derived.Test.YtkdjkkimngeloaaXVf1
import Derived.Test.YtkdjkkimngeloaaXVd4
namespace Go.Proofs.Ytkdjkkimngeloaa
open Go.RowKit
def Std.later (s : Std) (d : Int) : Std := ⟨s.tn, s.sn + d, s.dv⟩
theorem Pj {n : Nat} {x : Int} : x ∈ DF n ↔ 0 ≤ x ∧ x < n := by
  unfold DF
  rw [List.mem_map]
  constructor
  · rintro ⟨i, hi, rfl⟩
    have := List.mem_range.1 hi
    exact ⟨Int.natCast_nonneg _, by show (i : Int) < n; omega⟩
  · rintro ⟨h1, h2⟩
    exact ⟨x.toNat, List.mem_range.2 (by omega), by show ((x.toNat : Nat) : Int) = x; omega⟩
theorem Sn.uniq1 {m : Mp} {l : Lry} {t : Int} {c c' : Cst} (h : Sn m l t c) (h' : Sn m l t c') : c.1 = c'.1 := by
  obtain ⟨⟨p, h1, h2⟩, h3⟩ := h
  obtain ⟨⟨p', g1, g2⟩, g3⟩ := h'
  have e1 := h3 p' c' g1 g2
  have e2 := g3 p c h1 h2
  unfold clt at e1 e2
  omega
theorem Qt {a b b' c : Int} (h : b = b') : (⟨a, b, c⟩ : Std) = ⟨a, b', c⟩ := by rw [h]
theorem Pc {m : Mp} {l : Lry} {s s' : Std} {x : Leg} {d : Int} (h : go1 m l s x = some s') : go1 m l (s.later d) (x.1, x.2 + d) = some (s'.later d) := by
  obtain ⟨h1, h2, h3, h4, rfl⟩ := BB.1 h
  have e : AW m l (s.later d) (x.1, x.2 + d) = AW m l s x := by
    unfold AW Std.later
    have : (x.2 + d) - (s.sn + d) = x.2 - s.sn := by omega
    show (if gbp m.pk s.tn = true ∧ l.rst ≤ (x.2 + d) - (s.sn + d) then 0 else s.dv) = _
    rw [this]
  refine BB.2 ⟨h1, h2, ?_, by rw [e]; exact h4, ?_⟩
  · show s.sn + d ≤ x.2 + d
    omega
  · rw [e]
    refine Qt ?_
    show x.2 + (AD m x.1).2.2.1 + d = x.2 + d + (AD m x.1).2.2.1
    omega
theorem MY {m : Mp} {l : Lry} {C : Std → Leg → Prop} {d : Int} : ∀ {j : List Leg} {s s' : Std}, Jw m l C s j s' → Jw m l QW (s.later d) (shf d j) (s'.later d)
  | [], s, s', h => by
    have h : s = s' := h
    subst h
    exact (rfl : s.later d = s.later d)
  | x :: j, s, s', ⟨h1, _, s1, h2, h3⟩ => ⟨h1, trivial, _, Pc h2, MY h3⟩
theorem PX {m : Mp} {l : Lry} {s' : Std} {x : Leg} {d : Int} (hd : 0 ≤ d) (h : go1 m l (bgn l) x = some s') : go1 m l (bgn l) (x.1, x.2 + d) = some (s'.later d) := by
  obtain ⟨h1, h2, h3, h4, rfl⟩ := BB.1 h
  have e : ∀ y, AW m l (bgn l) y = 0 := fun y => by
    unfold AW
    split <;> rfl
  rw [e] at h4 ⊢
  refine BB.2 ⟨h1, h2, ?_, by rw [e]; exact h4, ?_⟩
  · show (bgn l).sn ≤ x.2 + d
    omega
  · rw [e]
    refine Qt ?_
    show x.2 + (AD m x.1).2.2.1 + d = x.2 + d + (AD m x.1).2.2.1
    omega
theorem QZ {m : Mp} {l : Lry} {C : Std → Leg → Prop} {d : Int} (hd : 0 ≤ d) {j : List Leg} {s' : Std} (hj : j ≠ []) (h : Jw m l C (bgn l) j s') : Jw m l QW (bgn l) (shf d j) (s'.later d) := by
  cases j with
  | nil => exact absurd rfl hj
  | cons x j =>
    obtain ⟨h1, _, s1, h2, h3⟩ := h
    exact ⟨h1, trivial, _, PX hd h2, MY h3⟩
theorem Bst.jrn {m : Mp} {l : Lry} {t a d : Int} {js : List Leg} (hm : MpS m) (hl : AZ m l) (hn : m.pk.length ≤ 5) (h : Bst m l t (a, js)) (hj : js ≠ []) (hd : 0 ≤ d) (hd2 : a + d ≤ 90000) : jrn m l (shf d js) = (t, a + d, 0, 0) := by
  obtain ⟨h1, h2, h3, h4⟩ := h.short hm.ok hl
  have h5 : (m.pk.length + 1) * m.pk.length ≤ 6 * 5 := Nat.mul_le_mul (by omega) hn
  have hy := hl.y
  unfold Go.Proofs.Ytkdjkkimngeloaa.jrn
  have hsl : (shf d js).length = js.length := by unfold shf; rw [List.length_map]
  rw [if_neg (by omega), if_neg]
  · obtain ⟨s, g1, g2, g3, _⟩ := h
    have g3 : s.sn = a := g3
    rw [Rs (QZ hd hj g1)]
    unfold Std.later
    rw [g2, g3]
  · rw [I2]
    · decide
    · intro i hi
      have hi' : i < js.length := by omega
      obtain ⟨k1, k2, k3⟩ := h2 _ (List.getElem_mem hi')
      have k1 : 0 ≤ js[i].1 ∧ js[i].1 < m.rs.length := k1
      have e : (shf d js)[i] = (js[i].1, js[i].2 + d) := by
        simp [shf]
      unfold D7
      rw [e]
      rw [decide_eq_true ⟨k1, by show 0 ≤ js[i].2 + d; omega, by show js[i].2 + d ≤ _; omega⟩]
      rfl
theorem Of {m : Mp} {t g : Int} : ∀ {ls : List Lry} {js : List (List Leg)} {i b : Int} {o : Nat → Int}, js.length = ls.length → 0 ≤ i → (∀ k (h1 : k < ls.length) (h2 : k < js.length), jrn m ls[k] js[k] = (t, o k, 0, 0)) → (0 < ls.length → 0 < i → b + g ≤ o 0) → (∀ k, k + 1 < ls.length → o k + g ≤ o (k + 1)) → Mj m t g i b ls js = (0, 0)
  | [], js, i, b, o, hl, _, _, _, _ => by
    cases js with
    | nil => rfl
    | cons j js => simp at hl
  | l :: ls, [], i, b, o, hl, _, _, _, _ => by simp at hl
  | l :: ls, j :: js, i, b, o, hl, hi, h1, h2, h3 => by
    have e := h1 0 (by simp) (by simp)
    have e : jrn m l j = (t, o 0, 0, 0) := e
    unfold Mj
    rw [e, if_pos rfl, if_pos ⟨rfl, fun hh => by have h8 := h2 (by simp) hh.1; have h9 : o 0 < b + g := hh.2; omega⟩]
    refine Of (o := fun k => o (k + 1)) (by simpa using hl) (by omega) (fun k g1 g2 => ?_) (fun hp _ => ?_) (fun k hk => ?_)
    · have := h1 (k + 1) (by simpa using g1) (by simpa using g2)
      simpa using this
    · exact h3 0 (by simp; omega)
    · exact h3 (k + 1) (by simp; omega)
end Go.Proofs.Ytkdjkkimngeloaa
