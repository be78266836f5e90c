/- Trimmed by wip/trim.py to what this claim rests on. -/
import Derived.Test.YtkdjkkimngeloaaZVd4
namespace Go.Proofs.Ytkdjkkimngeloaa
open Go.RowKit
def HH (m : Mp) (i : Nat) : Mp := ⟨m.pk, m.rs.take i ++ m.rs.drop (i + 1)⟩
def QR (r : Rdt) : Rdt := (r.1, r.2.1, r.2.2.1, -1, r.2.2.2.2)
def Fx (m : Mp) (i : Nat) : Mp := ⟨m.pk, m.rs.set i (QR (AF m i))⟩
section
variable {m : Mp} {l : Lry} {i : Nat}
theorem KK (hi : i < m.rs.length) : (HH m i).rs.length + 1 = m.rs.length := by
  show (m.rs.take i ++ m.rs.drop (i + 1)).length + 1 = _
  rw [List.length_append, List.length_take, List.length_drop]
  omega
theorem PG {k : Int} (hi : i < m.rs.length) (h0 : 0 ≤ k) (hk : k < i) : AF (HH m i) k = AF m k := by
  have h1 : k.toNat < (m.rs.take i).length := by rw [List.length_take]; omega
  unfold AF
  show (m.rs.take i ++ m.rs.drop (i + 1)).getD k.toNat _ = m.rs.getD k.toNat _
  rw [List.getD_eq_getElem?_getD, List.getD_eq_getElem?_getD, List.getElem?_append_left h1, List.getElem?_take_of_lt (by omega)]
theorem PB {k : Int} (hi : i < m.rs.length) (h0 : i ≤ k) : AF (HH m i) k = AF m (k + 1) := by
  unfold AF
  show (m.rs.take i ++ m.rs.drop (i + 1)).getD k.toNat _ = m.rs.getD (k + 1).toNat _
  rw [List.getD_eq_getElem?_getD, List.getD_eq_getElem?_getD, List.getElem?_append_right (by rw [List.length_take]; omega), List.getElem?_drop, List.length_take]
  congr 2
  omega
theorem Lh {k : Int} (h0 : 0 ≤ k) (hne : k ≠ i) : AF (Fx m i) k = AF m k := by
  unfold AF
  show (m.rs.set i _).getD k.toNat _ = m.rs.getD k.toNat _
  rw [List.getD_eq_getElem?_getD, List.getD_eq_getElem?_getD, List.getElem?_set_ne (by omega)]
theorem TP (hi : i < m.rs.length) : AF (Fx m i) (i : Nat) = QR (AF m i) := by
  show (m.rs.set i _).getD ((i : Nat) : Int).toNat _ = _
  rw [List.getD_eq_getElem?_getD, Int.toNat_natCast, List.getElem?_set_self hi]
  rfl
theorem Se (hm : BA m) (hi : i < m.rs.length) : BA (HH m i) := by
  refine ⟨hm.n, by have := KK hi; have := hm.k; omega, fun r hr => hm.r r ?_⟩
  have hr : r ∈ m.rs.take i ++ m.rs.drop (i + 1) := hr
  rcases List.mem_append.1 hr with h | h
  · exact List.mem_of_mem_take h
  · exact List.mem_of_mem_drop h
theorem RW (hm : BA m) (hi : i < m.rs.length) : BA (Fx m i) := by
  refine ⟨hm.n, by show (m.rs.set i _).length ≤ 30; rw [List.length_set]; exact hm.k, fun r hr => ?_⟩
  rcases List.mem_or_eq_of_mem_set hr with h | rfl
  · exact hm.r r h
  · have := hm.rd (x := ((i : Int), 0)) ⟨by show (0 : Int) ≤ (i : Int); omega, by show (i : Int) < _; omega⟩
    exact this
theorem Sx (h : AU m l) : AU (HH m i) l := ⟨h.h, h.w, h.f, h.y, h.d, h.s⟩
theorem QT (h : AU m l) : AU (Fx m i) l := ⟨h.h, h.w, h.f, h.y, h.d, h.s⟩
theorem LO {m m' : Mp} {s : Std} {x x' : Leg} (hp : m.pk = m'.pk) (hr : AF m x.1 = AF m' x'.1) (h2 : x.2 = x'.2) : go1 m l s x = go1 m' l s x' := by
  unfold go1 Bb
  rw [hr, h2, hp]
theorem OR {m m' : Mp} {f : Leg → Leg} {P : Leg → Prop} (hp : m.pk = m'.pk) (hf : ∀ x, GK m x → P x → GK m' (f x) ∧ AF m x.1 = AF m' (f x).1 ∧ (f x).2 = x.2) : ∀ {j : List Leg} {s s' : Std}, Jw m l (Hj m l) s j s' → (∀ x ∈ j, GK m x → P x) → Jw m' l (Hj m' l) s (j.map f) s'
  | [], _, _, h, _ => h
  | x :: j, s, s', ⟨a, b, s1, c, d⟩, hx => by
    obtain ⟨h1, h2, h3⟩ := hf x a (hx x (List.mem_cons_self ..) a)
    refine ⟨h1, ?_, s1, ?_, OR hp hf d fun y hy => hx y (List.mem_cons_of_mem _ hy)⟩
    · unfold Hj at b ⊢
      rw [h3, ← hp]
      exact b
    · rw [← LO hp h2 h3.symm]
      exact c
theorem QH (hl : AU m l) (hi : i < m.rs.length) {C : Std → Leg → Prop} : ∀ {j : List Leg} {s s' : Std}, Jw (Fx m i) l C s j s' → ∀ x ∈ j, x.1 ≠ i
  | [], _, _, _, x, hx => by cases hx
  | y :: j, s, s', ⟨a, b, s1, c, d⟩, x, hx => by
    rcases List.mem_cons.1 hx with rfl | hx
    · intro e
      obtain ⟨_, ⟨c2, _⟩, _⟩ := B7.1 c
      rw [e, TP hi] at c2
      have c2 : l.h ≤ -1 := c2
      have := hl.h
      omega
    · exact QH hl hi d x hx
theorem Np (hl : AU m l) (hi : i < m.rs.length) {t : Int} : Non (HH m i) l t ↔ Non (Fx m i) l t := by
  have hll := KK hi
  have hlw : (Fx m i).rs.length = m.rs.length := by show (m.rs.set i _).length = _; rw [List.length_set]
  constructor
  · refine fun hn => Non.of fun j s hj e => hn (s.tn, s.dv) _ e ⟨_, s, OR (m := Fx m i) (m' := HH m i) (f := fun x => if x.1 < i then x else (x.1 - 1, x.2)) (P := fun x => x.1 ≠ i) rfl (fun x hx hne => ?_) hj (fun x hx _ => QH hl hi hj x hx), rfl, rfl⟩
    obtain ⟨x1, x2⟩ := hx
    rw [hlw] at x2
    by_cases c : x.1 < i
    · rw [if_pos c]
      exact ⟨⟨x1, by omega⟩, by rw [Lh x1 hne, PG hi x1 c], rfl⟩
    · rw [if_neg c]
      refine ⟨⟨by show 0 ≤ x.1 - 1; omega, by show x.1 - 1 < _; omega⟩, ?_, rfl⟩
      have := PB (m := m) (k := x.1 - 1) hi (by omega)
      rw [Lh x1 hne, this]
      congr 1
      omega
  · refine fun hn => Non.of fun j s hj e => hn (s.tn, s.dv) _ e ⟨_, s, OR (m := HH m i) (m' := Fx m i) (f := fun x => if x.1 < i then x else (x.1 + 1, x.2)) (P := fun _ => True) rfl (fun x hx _ => ?_) hj (fun _ _ _ => trivial), rfl, rfl⟩
    obtain ⟨x1, x2⟩ := hx
    by_cases c : x.1 < i
    · rw [if_pos c]
      exact ⟨⟨x1, by omega⟩, by rw [Lh x1 (by omega), PG hi x1 c], rfl⟩
    · rw [if_neg c]
      refine ⟨⟨by show 0 ≤ x.1 + 1; omega, by show x.1 + 1 < _; omega⟩, ?_, rfl⟩
      rw [PB hi (by omega), Lh (by show 0 ≤ x.1 + 1; omega) (by show x.1 + 1 ≠ _; omega)]
theorem Ra (hi : i < m.rs.length) : ∀ {j : List Leg} {s s' : Std}, Jw m l Qv s j s' → (∀ x ∈ j, x.1 ≠ i) → Jw (Fx m i) l Qv s j s'
  | [], _, _, h, _ => h
  | x :: j, s, s', ⟨a, b, s1, c, d⟩, hx => by
    have hlw : (Fx m i).rs.length = m.rs.length := by show (m.rs.set i _).length = _; rw [List.length_set]
    refine ⟨⟨a.1, by rw [hlw]; exact a.2⟩, trivial, s1, ?_, Ra hi d fun y hy => hx y (List.mem_cons_of_mem _ hy)⟩
    rw [← LO (m := m) (m' := Fx m i) rfl (Lh a.1 (hx x (List.mem_cons_self ..))).symm rfl]
    exact c
def CrR (m : Mp) (l : Lry) (t : Int) (out : List Int) (k : Nat) : Prop := out.Pairwise (· < ·) ∧ ∀ x : Int, x ∈ out ↔ ∃ i : Nat, i < k ∧ x = i ∧ Non (Fx m i) l t
theorem CrR.uniq {t : Int} {a b : List Int} {k : Nat} (h : CrR m l t a k) (h' : CrR m l t b k) : a = b := by
  have key : ∀ (a b : List Int), a.Pairwise (· < ·) → b.Pairwise (· < ·) → (∀ x, x ∈ a ↔ x ∈ b) → a = b := by
    intro a
    induction a with
    | nil =>
      intro b _ _ hm
      cases b with
      | nil => rfl
      | cons y b => exact absurd ((hm y).2 (List.mem_cons_self ..)) (List.not_mem_nil)
    | cons x a ih =>
      intro b ha hb hm
      cases b with
      | nil => exact absurd ((hm x).1 (List.mem_cons_self ..)) (List.not_mem_nil)
      | cons y b =>
        obtain ⟨a1, a2⟩ := List.pairwise_cons.1 ha
        obtain ⟨b1, b2⟩ := List.pairwise_cons.1 hb
        have e : x = y := by
          have h1 : x ∈ y :: b := (hm x).1 (List.mem_cons_self ..)
          have h2 : y ∈ x :: a := (hm y).2 (List.mem_cons_self ..)
          rcases List.mem_cons.1 h1 with e | h1
          · exact e
          · rcases List.mem_cons.1 h2 with e | h2
            · exact e.symm
            · have := a1 y h2
              have := b1 x h1
              omega
        subst e
        rw [ih b a2 b2 fun z => ?_]
        constructor
        · intro hz
          rcases List.mem_cons.1 ((hm z).1 (List.mem_cons_of_mem _ hz)) with rfl | h
          · exact absurd (a1 z hz) (by omega)
          · exact h
        · intro hz
          rcases List.mem_cons.1 ((hm z).2 (List.mem_cons_of_mem _ hz)) with rfl | h
          · exact absurd (b1 z hz) (by omega)
          · exact h
  exact key a b h.1 h'.1 fun x => (h.2 x).trans (h'.2 x).symm
theorem CrR.zero {t : Int} : CrR m l t [] 0 := ⟨List.Pairwise.nil, fun x => ⟨fun h => (by cases h), fun ⟨i, hi, _⟩ => absurd hi (Nat.not_lt_zero _)⟩⟩
theorem CrR.add {t : Int} {out : List Int} {k : Nat} (h : CrR m l t out k) (hn : Non (Fx m k) l t) : CrR m l t (out ++ [(k : Int)]) (k + 1) := by
  refine ⟨List.pairwise_append.2 ⟨h.1, by simp, fun x hx y hy => ?_⟩, fun x => ?_⟩
  · rw [List.mem_singleton] at hy
    subst hy
    obtain ⟨i, hi, rfl, _⟩ := (h.2 x).1 hx
    omega
  · rw [List.mem_append, List.mem_singleton, h.2]
    constructor
    · rintro (⟨i, hi, e, hn⟩ | rfl)
      · exact ⟨i, by omega, e, hn⟩
      · exact ⟨k, by omega, rfl, hn⟩
    · rintro ⟨i, hi, e, hn⟩
      by_cases c : i = k
      · subst c
        exact .inr e
      · exact .inl ⟨i, by omega, e, hn⟩
theorem CrR.pass {t : Int} {out : List Int} {k : Nat} (h : CrR m l t out k) (hn : ¬ Non (Fx m k) l t) : CrR m l t out (k + 1) := by
  refine ⟨h.1, fun x => ?_⟩
  rw [h.2]
  constructor
  · rintro ⟨i, hi, e, hn⟩
    exact ⟨i, by omega, e, hn⟩
  · rintro ⟨i, hi, e, hn'⟩
    by_cases c : i = k
    · subst c
      exact absurd hn' hn
    · exact ⟨i, by omega, e, hn'⟩
end
end Go.Proofs.Ytkdjkkimngeloaa
