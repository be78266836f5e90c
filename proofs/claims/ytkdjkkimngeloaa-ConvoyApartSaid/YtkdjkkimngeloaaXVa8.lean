/- Trimmed by wip/trim.py to what this claim rests on. -/
import Derived.Test.YtkdjkkimngeloaaXVe5
namespace Go.Proofs.Ytkdjkkimngeloaa
open Go.RowKit
def geI (xs : List Int) (i : Int) : Int := xs.getD i.toNat 0
theorem Ey {xs : List Int} {i : Nat} (h : i < xs.length) : geI xs (i : Int) = xs[i] := by unfold geI; simp [List.getD, h]
theorem Nl {xs : List Int} {i : Int} (h : i.toNat < xs.length) : geI xs i = xs[i.toNat] := by unfold geI; simp [List.getD, h]
def FX (so : List Int) (g : Int) (os out : List Int) : Prop := out.length = os.length ∧ ∀ i (h : i < out.length) (_ : i < os.length), out[i] = if i = 0 then geI so os[i] else max (geI so os[i]) (out[i - 1]'(by omega) + g)
theorem FX.uniq {so os a b : List Int} {g : Int} (h : FX so g os a) (h' : FX so g os b) : a = b := by
  have hl : a.length = b.length := by rw [h.1, h'.1]
  apply List.ext_getElem hl
  intro i
  induction i with
  | zero =>
    intro h1 h2
    rw [h.2 0 h1 (by rw [← h.1]; exact h1), h'.2 0 h2 (by rw [← h.1]; exact h1), if_pos rfl, if_pos rfl]
  | succ i ih =>
    intro h1 h2
    have h3 : i + 1 < os.length := by rw [← h.1]; exact h1
    rw [h.2 (i + 1) h1 h3, h'.2 (i + 1) h2 h3, if_neg (by omega), if_neg (by omega)]
    have := ih (by omega) (by omega)
    simp only [Nat.add_sub_cancel]
    rw [this]
theorem FX.zero {so : List Int} {g : Int} : FX so g [] [] := ⟨rfl, fun i h => absurd h (Nat.not_lt_zero _)⟩
theorem FX.add {so os out : List Int} {g x : Int} (h : FX so g os out) {y : Int} (hy : y = if out.length = 0 then geI so x else max (geI so x) (geI out ((out.length - 1 : Nat) : Int) + g)) : FX so g (os ++ [x]) (out ++ [y]) := by
  refine ⟨by simp [h.1], fun i h1 h2 => ?_⟩
  by_cases c : i < out.length
  · have c2 : i < os.length := by rw [← h.1]; exact c
    rw [List.getElem_append_left c, List.getElem_append_left c2, h.2 i c c2]
    by_cases e : i = 0
    · rw [if_pos e, if_pos e]
    · rw [if_neg e, if_neg e, List.getElem_append_left (by omega)]
  · have e : i = out.length := by
      have : i < out.length + 1 := by simpa using h1
      omega
    subst e
    have e2 : (os ++ [x])[out.length]'h2 = x := by
      rw [List.getElem_append_right (by rw [h.1]; exact Nat.le_refl _)]
      simp [h.1]
    rw [List.getElem_append_right (Nat.le_refl _), e2]
    simp only [Nat.sub_self, List.getElem_cons_zero]
    refine hy.trans ?_
    by_cases e : out.length = 0
    · rw [if_pos e, if_pos e]
    · rw [if_neg e, if_neg e, Ey (by omega), List.getElem_append_left (by omega)]
theorem FX.bnd {so os out : List Int} {g M : Int} (hg : 0 ≤ g) (hs : ∀ x ∈ os, 0 ≤ geI so x ∧ geI so x ≤ M) (h : FX so g os out) : ∀ i (_ : i < out.length), 0 ≤ out[i] ∧ out[i] ≤ M + g * i ∧ ∀ (_ : i < os.length), geI so os[i] ≤ out[i] := by
  intro i
  induction i with
  | zero =>
    intro h1
    have h2 : 0 < os.length := by rw [← h.1]; exact h1
    have h3 := hs _ (List.getElem_mem h2)
    rw [h.2 0 h1 h2, if_pos rfl]
    refine ⟨h3.1, by simp; exact h3.2, fun _ => Int.le_refl _⟩
  | succ i ih =>
    intro h1
    have h2 : i + 1 < os.length := by rw [← h.1]; exact h1
    have h3 := hs _ (List.getElem_mem h2)
    obtain ⟨q1, q2, _⟩ := ih (by omega)
    rw [h.2 (i + 1) h1 h2, if_neg (by omega)]
    simp only [Nat.add_sub_cancel]
    have e : g * ((i + 1 : Nat) : Int) = g * i + g := by rw [Int.natCast_add]; simp [Int.mul_add]
    have e0 : 0 ≤ g * ((i + 1 : Nat) : Int) := Int.mul_nonneg hg (by omega)
    refine ⟨by omega, ?_, fun _ => Int.le_max_left _ _⟩
    rw [e] at e0 ⊢
    have : max (geI so os[i + 1]) (out[i] + g) ≤ M + (g * i + g) := Int.max_le.2 ⟨by omega, by omega⟩
    exact this
def DF (n : Nat) : List Int := (List.range n).map Int.ofNat
theorem Dp {n : Nat} : (DF n).length = n := by unfold DF; simp
theorem Sa {n i : Nat} (h : i < (DF n).length) : (DF n)[i] = i := by
  have hi : i < n := by rw [Dp] at h; exact h
  have e : (DF n)[i]? = some (i : Int) := by
    unfold DF
    rw [List.getElem?_map, List.getElem?_range hi]
    rfl
  rw [List.getElem?_eq_getElem h] at e
  exact Option.some.inj e
theorem PT {n : Nat} : DF (n + 1) = DF n ++ [(n : Int)] := by unfold DF; rw [List.range_succ, List.map_append]; rfl
def shf (d : Int) (j : List Leg) : List Leg := j.map fun x => (x.1, x.2 + d)
def shk (d : Int) (j : List Leg) (k : Nat) : List Leg := shf d (j.take k) ++ j.drop k
theorem My {d : Int} {j : List Leg} : shk d j 0 = j := by unfold shk shf; simp
theorem RL {d : Int} {j : List Leg} : shk d j j.length = shf d j := by unfold shk; simp
theorem GT {d : Int} {j : List Leg} {k : Nat} : (shk d j k).length = j.length := by unfold shk shf; simp; omega
theorem LP {d : Int} {j : List Leg} {k i : Nat} : (shk d j k)[i]? = if i < k then j[i]?.map (fun x => (x.1, x.2 + d)) else j[i]? := by
  unfold shk shf
  by_cases h : i < j.length
  · by_cases c : i < k
    · rw [if_pos c, List.getElem?_append_left (by simp; omega), List.getElem?_map, List.getElem?_take_of_lt c]
    · rw [if_neg c, List.getElem?_append_right (by simp; omega), List.getElem?_drop]
      congr 1
      simp
      omega
  · have e : j[i]? = none := List.getElem?_eq_none (by omega)
    rw [List.getElem?_eq_none (by simp; omega), e]
    split <;> rfl
theorem PY {d : Int} {j : List Leg} {k : Nat} (h : k < j.length) : (shk d j k)[k]'(by rw [GT]; exact h) = j[k] := by
  have e := LP (d := d) (j := j) (k := k) (i := k)
  rw [if_neg (Nat.lt_irrefl _), List.getElem?_eq_getElem (by rw [GT]; exact h), List.getElem?_eq_getElem h] at e
  exact Option.some.inj e
theorem RW {d : Int} {j : List Leg} {k : Nat} (h : k < j.length) : (shk d j k).set k (j[k].1, j[k].2 + d) = shk d j (k + 1) := by
  apply List.ext_getElem?
  intro i
  rw [LP]
  by_cases e : k = i
  · subst e
    rw [List.getElem?_set_self (by rw [GT]; exact h), if_pos (by omega), List.getElem?_eq_getElem h]
    rfl
  · rw [List.getElem?_set_ne e, LP]
    by_cases c : i < k
    · rw [if_pos c, if_pos (by omega)]
    · rw [if_neg c, if_neg (by omega)]
def IS (m : Mp) (ls : List Lry) (t : Int) (js : List (List Leg)) (ar : List Int) : Prop := js.length = ls.length ∧ ar.length = ls.length ∧ ∀ i (_ : i < ls.length) (_ : i < js.length) (_ : i < ar.length), Bst m ls[i] t (ar[i], js[i])
theorem IS.uniq {m : Mp} {ls : List Lry} {t : Int} {js js' : List (List Leg)} {ar ar' : List Int} (h : IS m ls t js ar) (h' : IS m ls t js' ar') : js = js' ∧ ar = ar' := by
  constructor
  · apply List.ext_getElem
    · rw [h.1, h'.1]
    · intro i h1 h2
      have hi : i < ls.length := by rw [← h.1]; exact h1
      exact congrArg Prod.snd ((h.2.2 i hi h1 (by rw [h.2.1]; exact hi)).uniq (h'.2.2 i hi h2 (by rw [h'.2.1]; exact hi)))
  · apply List.ext_getElem
    · rw [h.2.1, h'.2.1]
    · intro i h1 h2
      have hi : i < ls.length := by rw [← h.2.1]; exact h1
      exact congrArg Prod.fst ((h.2.2 i hi (by rw [h.1]; exact hi) h1).uniq (h'.2.2 i hi (by rw [h'.1]; exact hi) h2))
theorem Bst.last {m : Mp} {l : Lry} {t a : Int} {js : List Leg} (h : Bst m l t (a, js)) : (js = [] → a = l.rdy) ∧ ∀ (k : Nat) (hk : k < js.length), k + 1 = js.length → F8 m js[k] ∧ a = js[k].2 + (AD m js[k].1).2.2.1 := by
  obtain ⟨s, h1, _, h3, _⟩ := h
  have h1 : Jw m l (JS m l) (bgn l) js s := h1
  have h3 : s.sn = a := h3
  constructor
  · rintro rfl
    have h1 : bgn l = s := h1
    have h3 : s.sn = a := h3
    rw [← h3, ← h1]
    rfl
  · intro k hk hkl
    have e : js = js.take k ++ [js[k]] := by
      have := List.take_succ_eq_append_getElem hk
      rw [← this, List.take_of_length_le (by omega)]
    generalize hx : js[k] = x at e
    rw [e] at h1
    obtain ⟨s1, _, g2, _, g4⟩ := Jw.snoc.1 h1
    obtain ⟨_, _, _, _, e2⟩ := BB.1 g4
    refine ⟨g2, ?_⟩
    rw [← h3, e2]
end Go.Proofs.Ytkdjkkimngeloaa
