/- Trimmed by wip/trim.py to what this claim rests on. -/
import Derived.Test.YtkdjkkimngeloaaXB12
namespace Go.Proofs.Ytkdjkkimngeloaa
open Go.RowKit
abbrev Rdt := Int × Int × Int × Int × Int
structure Mp where
  pk : List Bool
  rs : List Rdt
structure Lry where
  h : Int
  w : Int
  fr : Int
  rdy : Int
  dr : Int
  rst : Int
abbrev Leg := Int × Int
structure Std where
  tn : Int
  sn : Int
  dv : Int
def gbp (xs : List Bool) (i : Int) : Bool := xs.getD i.toNat false
def AD (m : Mp) (i : Int) : Rdt := m.rs.getD i.toNat (0, 0, 0, 0, 0)
def Gp (l : Lry) (r : Rdt) : Prop := l.h ≤ r.2.2.2.1 ∧ l.w ≤ r.2.2.2.2
instance {l : Lry} {r : Rdt} : Decidable (Gp l r) := by unfold Gp; infer_instance
def Ni (n : Nat) (r : Rdt) : Prop := (0 ≤ r.1 ∧ r.1 < n) ∧ (0 ≤ r.2.1 ∧ r.2.1 < n) ∧ ¬ r.1 = r.2.1 ∧ (1 ≤ r.2.2.1 ∧ r.2.2.1 ≤ 500) ∧ (0 ≤ r.2.2.2.1 ∧ r.2.2.2.1 ≤ 1000) ∧ (0 ≤ r.2.2.2.2 ∧ r.2.2.2.2 ≤ 1000)
def rdW (n : Nat) (r : Rdt) : Prop := (0 ≤ r.1 ∧ r.1 < n) ∧ (0 ≤ r.2.1 ∧ r.2.1 < n) ∧ ¬ r.1 = r.2.1 ∧ (1 ≤ r.2.2.1 ∧ r.2.2.1 ≤ 500) ∧ True
structure BJ (m : Mp) : Prop where
  n : 1 ≤ m.pk.length ∧ m.pk.length ≤ 12
  k : m.rs.length ≤ 30
  r : ∀ r ∈ m.rs, rdW m.pk.length r
structure MpS (m : Mp) : Prop where
  n : 1 ≤ m.pk.length ∧ m.pk.length ≤ 12
  k : m.rs.length ≤ 30
  r : ∀ r ∈ m.rs, Ni m.pk.length r
theorem MpS.ok {m : Mp} (h : MpS m) : BJ m := ⟨h.n, h.k, fun r hr => ⟨(h.r r hr).1, (h.r r hr).2.1, (h.r r hr).2.2.1, (h.r r hr).2.2.2.1, trivial⟩⟩
structure AZ (m : Mp) (l : Lry) : Prop where
  h : 0 ≤ l.h ∧ l.h ≤ 1000
  w : 0 ≤ l.w ∧ l.w ≤ 1000
  f : 0 ≤ l.fr ∧ l.fr < m.pk.length
  y : 0 ≤ l.rdy ∧ l.rdy ≤ 2000
  d : 1 ≤ l.dr ∧ l.dr ≤ 500
  s : 1 ≤ l.rst ∧ l.rst ≤ 500
def F8 (m : Mp) (x : Leg) : Prop := 0 ≤ x.1 ∧ x.1 < m.rs.length
theorem BJ.rd {m : Mp} (h : BJ m) {x : Leg} (hx : F8 m x) : rdW m.pk.length (AD m x.1) := by
  have hk : x.1.toNat < m.rs.length := by have := hx.1; have := hx.2; omega
  have e : AD m x.1 = m.rs[x.1.toNat] := by unfold AD; simp [List.getD, hk]
  rw [e]
  exact h.r _ (List.getElem_mem hk)
def AW (m : Mp) (l : Lry) (s : Std) (x : Leg) : Int := if gbp m.pk s.tn = true ∧ l.rst ≤ x.2 - s.sn then 0 else s.dv
def go1 (m : Mp) (l : Lry) (s : Std) (x : Leg) : Option Std :=
  if (s.tn = (AD m x.1).1 ∨ s.tn = (AD m x.1).2.1) ∧ Gp l (AD m x.1) ∧ s.sn ≤ x.2 then
    (if AW m l s x + (AD m x.1).2.2.1 ≤ l.dr then some ⟨(AD m x.1).1 + (AD m x.1).2.1 - s.tn, x.2 + (AD m x.1).2.2.1, AW m l s x + (AD m x.1).2.2.1⟩ else none)
  else none
theorem BB {m : Mp} {l : Lry} {s s' : Std} {x : Leg} : go1 m l s x = some s' ↔ (s.tn = (AD m x.1).1 ∨ s.tn = (AD m x.1).2.1) ∧ Gp l (AD m x.1) ∧ s.sn ≤ x.2 ∧ AW m l s x + (AD m x.1).2.2.1 ≤ l.dr ∧ s' = ⟨(AD m x.1).1 + (AD m x.1).2.1 - s.tn, x.2 + (AD m x.1).2.2.1, AW m l s x + (AD m x.1).2.2.1⟩ := by
  unfold go1
  constructor
  · intro h
    split at h
    · rename_i h1
      split at h
      · rename_i h2
        cases h
        exact ⟨h1.1, h1.2.1, h1.2.2, h2, rfl⟩
      · cases h
    · cases h
  · rintro ⟨h1, h2, h3, h4, rfl⟩
    rw [if_pos ⟨h1, h2, h3⟩, if_pos h4]
def bgn (l : Lry) : Std := ⟨l.fr, l.rdy, 0⟩
def Jw (m : Mp) (l : Lry) (C : Std → Leg → Prop) : Std → List Leg → Std → Prop
  | s, [], s' => s = s'
  | s, x :: j, s' => F8 m x ∧ C s x ∧ ∃ s1, go1 m l s x = some s1 ∧ Jw m l C s1 j s'
def QW (_ : Std) (_ : Leg) : Prop := True
def JS (m : Mp) (l : Lry) (s : Std) (x : Leg) : Prop := x.2 = s.sn ∨ (x.2 = s.sn + l.rst ∧ gbp m.pk s.tn = true ∧ 0 < s.dv)
section
variable {m : Mp} {l : Lry} {C C' : Std → Leg → Prop} {s s1 s2 : Std} {j : List Leg} {x : Leg}
theorem Jw.snoc : ∀ {j : List Leg} {s : Std}, Jw m l C s (j ++ [x]) s2 ↔ ∃ s1, Jw m l C s j s1 ∧ F8 m x ∧ C s1 x ∧ go1 m l s1 x = some s2
  | [], s => by
    constructor
    · rintro ⟨h1, h2, s1, h3, h4⟩
      have h4 : s1 = s2 := h4
      subst h4
      exact ⟨s, rfl, h1, h2, h3⟩
    · rintro ⟨s1, h, h1, h2, h3⟩
      have h : s = s1 := h
      subst h
      exact ⟨h1, h2, s2, h3, rfl⟩
  | y :: j, s => by
    constructor
    · rintro ⟨h1, h2, s1, h3, h4⟩
      obtain ⟨s3, a, b⟩ := Jw.snoc.1 h4
      exact ⟨s3, ⟨h1, h2, s1, h3, a⟩, b⟩
    · rintro ⟨s3, ⟨h1, h2, s1, h3, a⟩, b⟩
      exact ⟨h1, h2, s1, h3, Jw.snoc.2 ⟨s3, a, b⟩⟩
theorem Jw.app : ∀ {j : List Leg} {s : Std} {k : List Leg}, Jw m l C s j s1 → Jw m l C s1 k s2 → Jw m l C s (j ++ k) s2
  | [], _, _, h, h' => by
    have h : _ = _ := h
    subst h
    exact h'
  | _ :: _, _, _, ⟨a, b, s3, c, d⟩, h' => ⟨a, b, s3, c, Jw.app d h'⟩
theorem Jw.mono (hc : ∀ s x, C s x → C' s x) : ∀ {j : List Leg} {s : Std}, Jw m l C s j s1 → Jw m l C' s j s1
  | [], _, h => h
  | _ :: _, _, ⟨a, b, s3, c, d⟩ => ⟨a, hc _ _ b, s3, c, Jw.mono hc d⟩
structure LD (m : Mp) (l : Lry) (s : Std) : Prop where
  t : 0 ≤ s.tn ∧ s.tn < m.pk.length
  d : 0 ≤ s.dv ∧ s.dv ≤ l.dr
  n : l.rdy ≤ s.sn
theorem AZ.bgn (h : AZ m l) : LD m l (bgn l) := ⟨h.f, ⟨Int.le_refl _, by have := h.d; show (0 : Int) ≤ l.dr; omega⟩, Int.le_refl _⟩
theorem LD.go (hm : BJ m) (h : LD m l s) (hx : F8 m x) (hg : go1 m l s x = some s1) : LD m l s1 ∧ s.sn + 1 ≤ s1.sn ∧ s1.sn = x.2 + (AD m x.1).2.2.1 := by
  obtain ⟨h1, h2, h3, h4, rfl⟩ := BB.1 hg
  obtain ⟨⟨a0, a1⟩, ⟨b0, b1⟩, hne, ⟨l0, l1⟩, _⟩ := hm.rd hx
  have hn := h.n
  have hd := h.d
  have hd1 : 0 ≤ AW m l s x := by unfold AW; split <;> omega
  refine ⟨⟨?_, ⟨?_, h4⟩, ?_⟩, ?_, rfl⟩
  · show 0 ≤ _ + _ - s.tn ∧ _ + _ - s.tn < _
    rcases h1 with e | e <;> (rw [e]; omega)
  · show 0 ≤ AW m l s x + _
    omega
  · show l.rdy ≤ x.2 + _
    omega
  · show s.sn + 1 ≤ x.2 + _
    omega
theorem Jw.ok (hm : BJ m) : ∀ {j : List Leg} {s : Std}, LD m l s → Jw m l C s j s1 → LD m l s1 ∧ s.sn + j.length ≤ s1.sn
  | [], s, h, e => by
    have e : s = s1 := e
    subst e
    exact ⟨h, by simp⟩
  | x :: j, s, h, ⟨a, _, s3, c, d⟩ => by
    obtain ⟨h1, h2, _⟩ := h.go hm a c
    obtain ⟨h3, h4⟩ := Jw.ok hm h1 d
    refine ⟨h3, ?_⟩
    simp only [List.length_cons]
    omega
end
abbrev Trp := Int × List Leg
def Jv : List Leg → List Leg → Prop
  | x :: xs, y :: ys => x.1 < y.1 ∨ (x.1 = y.1 ∧ (x.2 < y.2 ∨ (x.2 = y.2 ∧ Jv xs ys)))
  | _, _ => False
def bef (a b : Trp) : Prop := a.1 < b.1 ∨ (a.1 = b.1 ∧ (a.2.length < b.2.length ∨ (a.2.length = b.2.length ∧ Jv a.2 b.2)))
def lef (a b : Trp) : Prop := a = b ∨ bef a b
theorem M5 : ∀ {a : List Leg}, ¬ Jv a a
  | [], h => h
  | x :: xs, h => by
    rcases h with h | ⟨_, h | ⟨_, h⟩⟩
    · omega
    · omega
    · exact M5 h
theorem Ks : ∀ {a b c : List Leg}, Jv a b → Jv b c → Jv a c
  | [], _, _, h, _ => h.elim
  | _ :: _, [], _, h, _ => h.elim
  | _ :: _, _ :: _, [], _, h => h.elim
  | x :: xs, y :: ys, z :: zs, h, h' => by
    rcases h with h | ⟨h1, h | ⟨h2, h⟩⟩ <;> rcases h' with h' | ⟨h3, h' | ⟨h4, h'⟩⟩
    · exact .inl (by omega)
    · exact .inl (by omega)
    · exact .inl (by omega)
    · exact .inl (by omega)
    · exact .inr ⟨by omega, .inl (by omega)⟩
    · exact .inr ⟨by omega, .inl (by omega)⟩
    · exact .inl (by omega)
    · exact .inr ⟨by omega, .inl (by omega)⟩
    · exact .inr ⟨by omega, .inr ⟨by omega, Ks h h'⟩⟩
theorem MX : ∀ {a b : List Leg}, a.length = b.length → Jv a b ∨ a = b ∨ Jv b a
  | [], [], _ => .inr (.inl rfl)
  | [], _ :: _, h => by simp at h
  | _ :: _, [], h => by simp at h
  | x :: xs, y :: ys, h => by
    have hl : xs.length = ys.length := by simpa using h
    by_cases c1 : x.1 = y.1
    · by_cases c2 : x.2 = y.2
      · have e : x = y := Prod.ext c1 c2
        subst e
        rcases MX hl with h | h | h
        · exact .inl (.inr ⟨rfl, .inr ⟨rfl, h⟩⟩)
        · subst h; exact .inr (.inl rfl)
        · exact .inr (.inr (.inr ⟨rfl, .inr ⟨rfl, h⟩⟩))
      · rcases Int.lt_or_gt_of_ne c2 with c | c
        · exact .inl (.inr ⟨c1, .inl c⟩)
        · exact .inr (.inr (.inr ⟨c1.symm, .inl c⟩))
    · rcases Int.lt_or_gt_of_ne c1 with c | c
      · exact .inl (.inl c)
      · exact .inr (.inr (.inl c))
theorem Kk : ∀ {a b c : List Leg}, Jv (a ++ b) (a ++ c) ↔ Jv b c
  | [], _, _ => Iff.rfl
  | x :: xs, b, c => by
    constructor
    · rintro (h | ⟨_, h | ⟨_, h⟩⟩)
      · omega
      · omega
      · exact Kk.1 h
    · intro h
      exact .inr ⟨rfl, .inr ⟨rfl, Kk.2 h⟩⟩
theorem OW {a : Trp} : ¬ bef a a := by
  rintro (h | ⟨_, h | ⟨_, h⟩⟩)
  · omega
  · omega
  · exact M5 h
theorem PU {a b c : Trp} (h : bef a b) (h' : bef b c) : bef a c := by
  rcases h with h | ⟨h1, h | ⟨h2, h⟩⟩ <;> rcases h' with h' | ⟨h3, h' | ⟨h4, h'⟩⟩
  · exact .inl (by omega)
  · exact .inl (by omega)
  · exact .inl (by omega)
  · exact .inl (by omega)
  · exact .inr ⟨by omega, .inl (by omega)⟩
  · exact .inr ⟨by omega, .inl (by omega)⟩
  · exact .inl (by omega)
  · exact .inr ⟨by omega, .inl (by omega)⟩
  · exact .inr ⟨by omega, .inr ⟨by omega, Ks h h'⟩⟩
theorem RX (a b : Trp) : bef a b ∨ a = b ∨ bef b a := by
  rcases Int.lt_trichotomy a.1 b.1 with h | h | h
  · exact .inl (.inl h)
  · rcases Nat.lt_trichotomy a.2.length b.2.length with h2 | h2 | h2
    · exact .inl (.inr ⟨h, .inl h2⟩)
    · rcases MX h2 with h3 | h3 | h3
      · exact .inl (.inr ⟨h, .inr ⟨h2, h3⟩⟩)
      · exact .inr (.inl (Prod.ext h h3))
      · exact .inr (.inr (.inr ⟨h.symm, .inr ⟨h2.symm, h3⟩⟩))
    · exact .inr (.inr (.inr ⟨h.symm, .inl h2⟩))
  · exact .inr (.inr (.inl h))
theorem R4 {a b : Trp} : lef a b ↔ ¬ bef b a := by
  constructor
  · rintro (rfl | h) h'
    · exact OW h'
    · exact OW (PU h h')
  · intro h
    rcases RX a b with h' | h' | h'
    · exact .inr h'
    · exact .inl h'
    · exact absurd h' h
theorem Q5 {a b : Trp} (h : lef a b) (h' : lef b a) : a = b := by
  rcases h with h | h
  · exact h
  · exact absurd h (R4.1 h')
section
variable {m : Mp} {l : Lry} {s s1 s2 : Std} {j : List Leg} {x : Leg}
theorem R0 (hm : BJ m) (hl : AZ m l) : ∀ (n : Nat) (j : List Leg) (s : Std), j.length = n → Jw m l QW (bgn l) j s → ∃ j' s', Jw m l (JS m l) (bgn l) j' s' ∧ s'.tn = s.tn ∧ s'.dv ≤ s.dv ∧ s'.sn ≤ s.sn ∧ j'.length = j.length := by
  intro n
  induction n with
  | zero =>
    intro j s hn h
    obtain rfl := List.length_eq_zero_iff.1 hn
    have h : bgn l = s := h
    subst h
    exact ⟨[], _, rfl, rfl, Int.le_refl _, Int.le_refl _, rfl⟩
  | succ n ih =>
    intro j s hn h
    obtain ⟨k, x, rfl⟩ : ∃ k x, j = k ++ [x] := ⟨j.dropLast, j.getLast (by intro e; rw [e] at hn; simp at hn), (List.dropLast_concat_getLast _).symm⟩
    obtain ⟨s0, h1, h2, _, h4⟩ := Jw.snoc.1 h
    obtain ⟨k', s', g1, g2, g3, g4, g5⟩ := ih k s0 (by simpa using hn) h1
    obtain ⟨a1, a2, a3, a4, rfl⟩ := BB.1 h4
    have hok := (Jw.ok hm hl.bgn g1).1
    have hd := hok.d
    have hrs := hl.s
    have hlen := (hm.rd h2).2.2.2.1
    by_cases hp : (gbp m.pk s0.tn = true ∧ l.rst ≤ x.2 - s0.sn) ∧ 0 < s'.dv
    · have e : AW m l s0 x = 0 := by unfold AW; rw [if_pos hp.1]
      have e2 : AW m l s' (x.1, s'.sn + l.rst) = 0 := by
        unfold AW
        rw [if_pos ⟨by rw [g2]; exact hp.1.1, by show l.rst ≤ s'.sn + l.rst - s'.sn; omega⟩]
      refine ⟨k' ++ [(x.1, s'.sn + l.rst)], ⟨(AD m x.1).1 + (AD m x.1).2.1 - s'.tn, s'.sn + l.rst + (AD m x.1).2.2.1, AW m l s' (x.1, s'.sn + l.rst) + (AD m x.1).2.2.1⟩, Jw.snoc.2 ⟨s', g1, h2, .inr ⟨rfl, by rw [g2]; exact hp.1.1, hp.2⟩, BB.2 ⟨by rw [g2]; exact a1, a2, by show s'.sn ≤ s'.sn + l.rst; omega, by rw [e2, ← e]; exact a4, rfl⟩⟩, ?_, ?_, ?_, by simp [g5]⟩
      · show _ + _ - s'.tn = _ + _ - s0.tn
        rw [g2]
      · show AW m l s' _ + _ ≤ AW m l s0 x + _
        rw [e2, e]
        exact Int.le_refl _
      · show s'.sn + l.rst + _ ≤ x.2 + _
        omega
    · have e2 : AW m l s' (x.1, s'.sn) = s'.dv := by
        unfold AW
        rw [if_neg]
        rintro ⟨_, h⟩
        have h : l.rst ≤ s'.sn - s'.sn := h
        omega
      have e : s'.dv ≤ AW m l s0 x := by
        unfold AW
        split
        · rename_i h
          by_cases c : 0 < s'.dv
          · exact absurd ⟨h, c⟩ hp
          · omega
        · exact g3
      refine ⟨k' ++ [(x.1, s'.sn)], ⟨(AD m x.1).1 + (AD m x.1).2.1 - s'.tn, s'.sn + (AD m x.1).2.2.1, AW m l s' (x.1, s'.sn) + (AD m x.1).2.2.1⟩, Jw.snoc.2 ⟨s', g1, h2, .inl rfl, BB.2 ⟨by rw [g2]; exact a1, a2, Int.le_refl _, by rw [e2]; show s'.dv + (AD m x.1).2.2.1 ≤ l.dr; omega, rfl⟩⟩, ?_, ?_, ?_, by simp [g5]⟩
      · show _ + _ - s'.tn = _ + _ - s0.tn
        rw [g2]
      · show AW m l s' (x.1, s'.sn) + _ ≤ AW m l s0 x + _
        rw [e2]
        omega
      · show s'.sn + _ ≤ x.2 + _
        omega
def Bst (m : Mp) (l : Lry) (t : Int) (a : Trp) : Prop := ∃ s, Jw m l (JS m l) (bgn l) a.2 s ∧ s.tn = t ∧ s.sn = a.1 ∧ ∀ j' s', Jw m l (JS m l) (bgn l) j' s' → s'.tn = t → lef a (s'.sn, j')
theorem Bst.uniq {t : Int} {a b : Trp} (h : Bst m l t a) (h' : Bst m l t b) : a = b := by
  obtain ⟨s, h1, h2, h3, h4⟩ := h
  obtain ⟨s', g1, g2, g3, g4⟩ := h'
  have e1 := h4 _ _ g1 g2
  have e2 := g4 _ _ h1 h2
  rw [g3] at e1
  rw [h3] at e2
  exact Q5 e1 e2
end
end Go.Proofs.Ytkdjkkimngeloaa
namespace Go.Proofs.Ytkdjkkimngeloaa
open Go.RowKit
abbrev Plc := Int × Int
abbrev Cst := Int × Int
structure Wy where
  rd : Int
  rst : Int
  tn : Int
  us : Int
  tk : Int
def Wy.to (w : Wy) : Plc := (w.tn, w.us)
def wy1 (m : Mp) (l : Lry) (p : Plc) (i : Nat) : List Wy :=
  if (p.1 = (AD m i).1 ∨ p.1 = (AD m i).2.1) ∧ Gp l (AD m i) then
    (if p.2 + (AD m i).2.2.1 ≤ l.dr then [⟨i, 0, (AD m i).1 + (AD m i).2.1 - p.1, p.2 + (AD m i).2.2.1, (AD m i).2.2.1⟩] else []) ++
    (if gbp m.pk p.1 = true ∧ 0 < p.2 ∧ (AD m i).2.2.1 ≤ l.dr then [⟨i, l.rst, (AD m i).1 + (AD m i).2.1 - p.1, (AD m i).2.2.1, l.rst + (AD m i).2.2.1⟩] else [])
  else []
def wys (m : Mp) (l : Lry) (p : Plc) : List Wy := (List.range m.rs.length).flatMap (wy1 m l p)
def clt (a b : Cst) : Prop := a.1 < b.1 ∨ (a.1 = b.1 ∧ a.2 < b.2)
instance {a b : Cst} : Decidable (clt a b) := by unfold clt; infer_instance
def cad (c : Cst) (w : Wy) : Cst := (c.1 + w.tk, c.2 + 1)
theorem A0 {a : Cst} : ¬ clt a a := by unfold clt; omega
theorem BD {a b c : Cst} (h : clt a b) (h' : clt b c) : clt a c := by unfold clt at *; omega
theorem Df {a b c : Cst} (h : ¬ clt b a) (h' : ¬ clt c b) : ¬ clt c a := by unfold clt at *; omega
theorem RR {a b c : Cst} (h : ¬ clt b a) (h' : clt b c) : clt a c := by unfold clt at *; omega
theorem Ig (a b : Cst) : clt a b ∨ a = b ∨ clt b a := by
  obtain ⟨a1, a2⟩ := a
  obtain ⟨b1, b2⟩ := b
  unfold clt
  rcases Int.lt_trichotomy a1 b1 with h | h | h
  · exact .inl (.inl h)
  · rcases Int.lt_trichotomy a2 b2 with h2 | h2 | h2
    · exact .inl (.inr ⟨h, h2⟩)
    · exact .inr (.inl (by rw [h, h2]))
    · exact .inr (.inr (.inr ⟨h.symm, h2⟩))
  · exact .inr (.inr (.inl h))
theorem P8 {a b : Cst} {w : Wy} (h : ¬ clt b a) : ¬ clt (cad b w) (cad a w) := by
  obtain ⟨a1, a2⟩ := a
  obtain ⟨b1, b2⟩ := b
  unfold clt cad at *
  dsimp only at *
  omega
section
variable {m : Mp} {l : Lry}
theorem GH {p : Plc} {i : Nat} {w : Wy} : w ∈ wy1 m l p i ↔ ((p.1 = (AD m i).1 ∨ p.1 = (AD m i).2.1) ∧ Gp l (AD m i)) ∧
    ((p.2 + (AD m i).2.2.1 ≤ l.dr ∧ w = ⟨i, 0, (AD m i).1 + (AD m i).2.1 - p.1, p.2 + (AD m i).2.2.1, (AD m i).2.2.1⟩) ∨
     ((gbp m.pk p.1 = true ∧ 0 < p.2 ∧ (AD m i).2.2.1 ≤ l.dr) ∧ w = ⟨i, l.rst, (AD m i).1 + (AD m i).2.1 - p.1, (AD m i).2.2.1, l.rst + (AD m i).2.2.1⟩)) := by
  unfold wy1
  by_cases h1 : (p.1 = (AD m i).1 ∨ p.1 = (AD m i).2.1) ∧ Gp l (AD m i)
  · rw [if_pos h1, List.mem_append]
    by_cases h2 : p.2 + (AD m i).2.2.1 ≤ l.dr <;> by_cases h3 : gbp m.pk p.1 = true ∧ 0 < p.2 ∧ (AD m i).2.2.1 ≤ l.dr <;>
      simp only [h1, h2, h3, if_true, if_false, List.mem_singleton, List.not_mem_nil, true_and, false_and, or_false, false_or, and_self]
  · rw [if_neg h1]
    simp [h1]
theorem JE (hl : AZ m l) {s s1 : Std} {x : Leg} : (F8 m x ∧ JS m l s x ∧ go1 m l s x = some s1) ↔ ∃ w ∈ wys m l (s.tn, s.dv), x = (w.rd, s.sn + w.rst) ∧ s1 = ⟨w.tn, s.sn + w.tk, w.us⟩ := by
  have hrs := hl.s
  unfold wys
  constructor
  · rintro ⟨⟨h1, h2⟩, h3, h4⟩
    obtain ⟨a1, a2, a3, a4, rfl⟩ := BB.1 h4
    obtain ⟨i, hi⟩ := Int.eq_ofNat_of_zero_le h1
    rw [hi] at a1 a2 a4
    rcases h3 with h3 | ⟨h3, h5, h6⟩
    · have e : AW m l s x = s.dv := by
        unfold AW
        rw [if_neg]
        rintro ⟨_, h⟩
        omega
      rw [e] at a4
      refine ⟨_, List.mem_flatMap.2 ⟨i, List.mem_range.2 (by omega), GH.2 ⟨⟨a1, a2⟩, .inl ⟨a4, rfl⟩⟩⟩, ?_, ?_⟩
      · exact Prod.ext hi (by show x.2 = s.sn + 0; omega)
      · rw [e, hi, h3]
    · have e : AW m l s x = 0 := by
        unfold AW
        rw [if_pos ⟨h5, by omega⟩]
      rw [e] at a4
      refine ⟨_, List.mem_flatMap.2 ⟨i, List.mem_range.2 (by omega), GH.2 ⟨⟨a1, a2⟩, .inr ⟨⟨h5, h6, by omega⟩, rfl⟩⟩⟩, ?_, ?_⟩
      · exact Prod.ext hi h3
      · rw [e, hi, h3, Int.zero_add, Int.add_assoc]
  · rintro ⟨w, hw, rfl, rfl⟩
    obtain ⟨i, hi, hw⟩ := List.mem_flatMap.1 hw
    have hi := List.mem_range.1 hi
    obtain ⟨⟨a1, a2⟩, ⟨a3, rfl⟩ | ⟨⟨a3, a4, a5⟩, rfl⟩⟩ := GH.1 hw
    · have e : AW m l s ((i : Int), s.sn + 0) = s.dv := by
        unfold AW
        rw [if_neg]
        rintro ⟨_, h⟩
        have h : l.rst ≤ s.sn + 0 - s.sn := h
        omega
      refine ⟨⟨by show (0 : Int) ≤ (i : Int); omega, by show (i : Int) < _; omega⟩, .inl (by show s.sn + 0 = s.sn; omega), BB.2 ⟨a1, a2, by show s.sn ≤ s.sn + 0; omega, by rw [e]; exact a3, ?_⟩⟩
      rw [e]
      simp
    · have e : AW m l s ((i : Int), s.sn + l.rst) = 0 := by
        unfold AW
        rw [if_pos ⟨a3, by show l.rst ≤ s.sn + l.rst - s.sn; omega⟩]
      refine ⟨⟨by show (0 : Int) ≤ (i : Int); omega, by show (i : Int) < _; omega⟩, .inr ⟨rfl, a3, a4⟩, BB.2 ⟨a1, a2, by show s.sn ≤ s.sn + l.rst; omega, by rw [e]; show 0 + (AD m i).2.2.1 ≤ l.dr; omega, ?_⟩⟩
      rw [e]
      simp [Int.add_assoc]
def wlt (a b : Wy) : Prop := a.rd < b.rd ∨ (a.rd = b.rd ∧ a.rst < b.rst)
theorem NI (hl : AZ m l) {p : Plc} : (wys m l p).Pairwise wlt := by
  unfold wys
  have one : ∀ i, (wy1 m l p i).Pairwise wlt := fun i => by
    unfold wy1
    have hrs := hl.s
    split
    · split <;> split <;> simp [wlt]
      omega
    · exact List.Pairwise.nil
  have rdm : ∀ i, ∀ w ∈ wy1 m l p i, w.rd = i := fun i w hw => by
    obtain ⟨_, ⟨_, rfl⟩ | ⟨_, rfl⟩⟩ := GH.1 hw <;> rfl
  induction m.rs.length with
  | zero => exact List.Pairwise.nil
  | succ n ih =>
    rw [List.range_succ, List.flatMap_append, List.pairwise_append]
    refine ⟨ih, by simpa using one n, fun a ha b hb => ?_⟩
    obtain ⟨i, hi, ha⟩ := List.mem_flatMap.1 ha
    have hi := List.mem_range.1 hi
    have hb : b ∈ wy1 m l p n := by simpa using hb
    left
    rw [rdm i a ha, rdm n b hb]
    omega
theorem FB (hm : BJ m) (hl : AZ m l) {p : Plc} {w : Wy} (hw : w ∈ wys m l p) : 1 ≤ w.tk ∧ w.tk ≤ 1000 ∧ 0 ≤ w.rst ∧ w.rst ≤ w.tk ∧ (0 ≤ w.rd ∧ w.rd < m.rs.length) := by
  unfold wys at hw
  obtain ⟨i, hi, hw⟩ := List.mem_flatMap.1 hw
  have hi := List.mem_range.1 hi
  have hrs := hl.s
  obtain ⟨_, _, _, h4, _⟩ := hm.rd (x := ((i : Int), 0)) ⟨by show (0 : Int) ≤ (i : Int); omega, by show (i : Int) < _; omega⟩
  have h4 : 1 ≤ (AD m i).2.2.1 ∧ (AD m i).2.2.1 ≤ 500 := h4
  obtain ⟨_, ⟨_, rfl⟩ | ⟨_, rfl⟩⟩ := GH.1 hw <;> (dsimp only; omega)
def Rc (m : Mp) (l : Lry) (p : Plc) (c : Cst) : Prop := ∃ j s, Jw m l (JS m l) (bgn l) j s ∧ p = (s.tn, s.dv) ∧ c = (s.sn - l.rdy, (j.length : Int))
theorem Rc.bgn : Rc m l (l.fr, 0) (0, 0) := ⟨[], Go.Proofs.Ytkdjkkimngeloaa.bgn l, rfl, rfl, by show ((0 : Int), (0 : Int)) = (l.rdy - l.rdy, 0); rw [Int.sub_self]⟩
theorem Rc.way (hl : AZ m l) {p : Plc} {c : Cst} {w : Wy} (h : Rc m l p c) (hw : w ∈ wys m l p) : Rc m l w.to (cad c w) := by
  obtain ⟨j, s, h1, rfl, rfl⟩ := h
  obtain ⟨a, b, g⟩ := (JE hl).2 ⟨w, hw, rfl, rfl⟩
  refine ⟨j ++ [_], _, Jw.snoc.2 ⟨s, h1, a, b, g⟩, rfl, ?_⟩
  unfold cad
  rw [List.length_append]
  apply Prod.ext
  · show s.sn - l.rdy + w.tk = s.sn + w.tk - l.rdy
    omega
  · show (j.length : Int) + 1 = ((j.length + 1 : Nat) : Int)
    omega
theorem Rc.ind (hl : AZ m l) {Q : Plc → Cst → Prop} (h0 : Q (l.fr, 0) (0, 0)) (h1 : ∀ p c w, Rc m l p c → Q p c → w ∈ wys m l p → Q w.to (cad c w)) {p : Plc} {c : Cst} (h : Rc m l p c) : Q p c := by
  obtain ⟨j, s, h, rfl, rfl⟩ := h
  have key : ∀ (n : Nat) (j : List Leg) (s : Std), j.length = n → Jw m l (JS m l) (Go.Proofs.Ytkdjkkimngeloaa.bgn l) j s → Q (s.tn, s.dv) (s.sn - l.rdy, (j.length : Int)) := by
    intro n
    induction n with
    | zero =>
      intro j s hn h
      obtain rfl := List.length_eq_zero_iff.1 hn
      have h : Go.Proofs.Ytkdjkkimngeloaa.bgn l = s := h
      subst h
      have : ((l.rdy - l.rdy, ((0 : Nat) : Int)) : Cst) = (0, 0) := by rw [Int.sub_self]; rfl
      show Q (l.fr, 0) (l.rdy - l.rdy, ((0 : Nat) : Int))
      rw [this]
      exact h0
    | succ n ih =>
      intro j s hn h
      obtain ⟨k, x, rfl⟩ : ∃ k x, j = k ++ [x] := ⟨j.dropLast, j.getLast (by intro e; rw [e] at hn; simp at hn), (List.dropLast_concat_getLast _).symm⟩
      obtain ⟨s0, g1, g2, g3, g4⟩ := Jw.snoc.1 h
      obtain ⟨w, hw, rfl, rfl⟩ := (JE hl).1 ⟨g2, g3, g4⟩
      have h5 := h1 _ _ w ⟨k, s0, g1, rfl, rfl⟩ (ih k s0 (by simpa using hn) g1) hw
      have e : cad (s0.sn - l.rdy, (k.length : Int)) w = (s0.sn + w.tk - l.rdy, ((k ++ [(w.rd, s0.sn + w.rst)]).length : Int)) := by
        unfold cad
        rw [List.length_append]
        apply Prod.ext
        · show s0.sn - l.rdy + w.tk = s0.sn + w.tk - l.rdy
          omega
        · show (k.length : Int) + 1 = ((k.length + 1 : Nat) : Int)
          omega
      rw [e] at h5
      exact h5
  exact key _ j s rfl h
theorem Rc.ok (hm : BJ m) (hl : AZ m l) {p : Plc} {c : Cst} (h : Rc m l p c) : (0 ≤ p.1 ∧ p.1 < m.pk.length) ∧ (0 ≤ p.2 ∧ p.2 ≤ l.dr) ∧ 0 ≤ c.2 ∧ c.2 ≤ c.1 := by
  obtain ⟨j, s, h, rfl, rfl⟩ := h
  obtain ⟨h1, h2⟩ := Jw.ok hm hl.bgn h
  refine ⟨h1.t, h1.d, by show (0 : Int) ≤ (j.length : Int); omega, ?_⟩
  have h2 : l.rdy + j.length ≤ s.sn := h2
  show (j.length : Int) ≤ s.sn - l.rdy
  omega
end
section
variable {κ ν : Type} [DecidableEq κ]
def lkA : List (κ × ν) → κ → Option ν
  | [], _ => none
  | e :: es, k => if e.1 = k then some e.2 else lkA es k
def upA : List (κ × ν) → κ → ν → List (κ × ν)
  | [], k, v => [(k, v)]
  | e :: es, k, v => if e.1 = k then (k, v) :: es else e :: upA es k v
theorem Br {k k' : κ} {v : ν} : ∀ es : List (κ × ν), lkA (upA es k v) k' = if k' = k then some v else lkA es k'
  | [] => by
    by_cases h : k' = k
    · simp [upA, lkA, h]
    · simp [upA, lkA, h, Ne.symm h]
  | e :: es => by
    unfold upA
    by_cases h : e.1 = k
    · rw [if_pos h]
      by_cases h' : k' = k
      · simp [lkA, h']
      · rw [if_neg h']
        simp only [lkA]
        rw [if_neg (Ne.symm h'), if_neg (by rw [h]; exact Ne.symm h')]
    · rw [if_neg h]
      simp only [lkA]
      by_cases h' : e.1 = k'
      · rw [if_pos h', if_pos h', if_neg (by rw [← h']; exact h)]
      · rw [if_neg h', if_neg h', Br es]
theorem HS {k : κ} {v : ν} : ∀ {es : List (κ × ν)}, lkA es k = some v → (k, v) ∈ es
  | [], h => by cases h
  | e :: es, h => by
    unfold lkA at h
    split at h
    · rename_i e1
      cases h
      rw [← e1]
      exact List.mem_cons_self ..
    · exact List.mem_cons_of_mem _ (HS h)
theorem QB {k : κ} {v : ν} : ∀ {es : List (κ × ν)}, (es.map Prod.fst).Nodup → (k, v) ∈ es → lkA es k = some v
  | [], _, h => by cases h
  | e :: es, hn, h => by
    rw [List.map_cons, List.nodup_cons] at hn
    unfold lkA
    rcases List.mem_cons.1 h with rfl | h
    · rw [if_pos rfl]
    · rw [if_neg (fun e1 => hn.1 (by rw [e1]; exact List.mem_map_of_mem (f := Prod.fst) h)), QB hn.2 h]
theorem JY {k : κ} : ∀ {es : List (κ × ν)}, lkA es k = none ↔ k ∉ es.map Prod.fst
  | [] => by simp [lkA]
  | e :: es => by
    unfold lkA
    by_cases h : e.1 = k
    · simp [h]
    · rw [if_neg h, JY (es := es), List.map_cons, List.mem_cons]
      constructor
      · intro h1 h2
        exact h2.elim (fun e => h e.symm) h1
      · exact fun h1 h2 => h1 (.inr h2)
theorem M3 {k : κ} {v : ν} : ∀ {es : List (κ × ν)}, (upA es k v).map Prod.fst = if k ∈ es.map Prod.fst then es.map Prod.fst else es.map Prod.fst ++ [k]
  | [] => by simp [upA]
  | e :: es => by
    unfold upA
    by_cases h : e.1 = k
    · rw [if_pos h, if_pos (by rw [List.map_cons, h]; exact List.mem_cons_self ..)]
      simp [h]
    · rw [if_neg h, List.map_cons, M3 (es := es), List.map_cons]
      by_cases h2 : k ∈ es.map Prod.fst
      · rw [if_pos h2, if_pos (List.mem_cons_of_mem _ h2)]
      · rw [if_neg h2, if_neg]
        · rfl
        · intro h3
          rcases List.mem_cons.1 h3 with h3 | h3
          · exact h h3.symm
          · exact h2 h3
theorem IB {k : κ} {v : ν} {es : List (κ × ν)} (h : (es.map Prod.fst).Nodup) : ((upA es k v).map Prod.fst).Nodup := by
  rw [M3]
  split
  · exact h
  · rename_i h2
    rw [List.nodup_append]
    refine ⟨h, by simp, ?_⟩
    intro a ha b hb e
    rw [List.mem_singleton] at hb
    subst hb e
    exact h2 ha
end
section
variable {m : Mp} {l : Lry}
structure DJ (m : Mp) (l : Lry) (out : List (Plc × Cst)) (dn : List Plc) (q : List (Plc × Cst)) : Prop where
  nd : (out.map Prod.fst).Nodup
  b : lkA out (l.fr, 0) = some (0, 0)
  so : ∀ p c, lkA out p = some c → Rc m l p c
  qs : ∀ e ∈ q, Rc m l e.1 e.2 ∧ ∃ c, lkA out e.1 = some c ∧ ¬ clt e.2 c
  un : ∀ p c, lkA out p = some c → p ∉ dn → (p, c) ∈ q
  cl : ∀ p ∈ dn, ∃ c, lkA out p = some c ∧ ∀ w ∈ wys m l p, ∃ c', lkA out w.to = some c' ∧ ¬ clt (cad c w) c'
  mo : ∀ p ∈ dn, ∀ c, lkA out p = some c → ∀ e ∈ q, ¬ clt e.2 c
theorem DJ.init : DJ m l [((l.fr, 0), (0, 0))] [] [((l.fr, 0), (0, 0))] := by
  have hk : ∀ (p : Plc) (c : Cst), lkA [(((l.fr, 0) : Plc), ((0, 0) : Cst))] p = some c → (l.fr, 0) = p ∧ (0, 0) = c := fun p c h => by
    unfold lkA at h
    split at h
    · rename_i e; cases h; exact ⟨e, rfl⟩
    · cases h
  refine ⟨by simp, by simp [lkA], fun p c h => ?_, fun e he => ?_, fun p c h _ => ?_, fun p hp => (by cases hp), fun p hp => (by cases hp)⟩
  · obtain ⟨rfl, rfl⟩ := hk p c h
    exact Rc.bgn
  · rw [List.mem_singleton] at he
    subst he
    exact ⟨Rc.bgn, _, by simp [lkA], A0⟩
  · obtain ⟨rfl, rfl⟩ := hk p c h
    exact List.mem_singleton.2 rfl
theorem DJ.perm {out : List (Plc × Cst)} {dn : List Plc} {q q' : List (Plc × Cst)} (h : DJ m l out dn q) (hq : ∀ e, e ∈ q' ↔ e ∈ q) : DJ m l out dn q' :=
  ⟨h.nd, h.b, h.so, fun e he => h.qs e ((hq e).1 he), fun p c a b => (hq _).2 (h.un p c a b), h.cl, fun p hp c hc e he => h.mo p hp c hc e ((hq e).1 he)⟩
theorem DJ.skip {out : List (Plc × Cst)} {dn : List Plc} {x : Plc × Cst} {q : List (Plc × Cst)} (h : DJ m l out dn (x :: q)) (hx : x.1 ∈ dn) : DJ m l out dn q := by
  refine ⟨h.nd, h.b, h.so, fun e he => h.qs e (List.mem_cons_of_mem _ he), fun p c a b => ?_, h.cl, fun p hp c hc e he => h.mo p hp c hc e (List.mem_cons_of_mem _ he)⟩
  rcases List.mem_cons.1 (h.un p c a b) with e | e
  · exact absurd (by rw [← e] at hx; exact hx) b
  · exact e
structure DJI (m : Mp) (l : Lry) (p : Plc) (c : Cst) (k : Nat) (out : List (Plc × Cst)) (dn : List Plc) (q : List (Plc × Cst)) : Prop where
  nd : (out.map Prod.fst).Nodup
  b : lkA out (l.fr, 0) = some (0, 0)
  so : ∀ p c, lkA out p = some c → Rc m l p c
  qs : ∀ e ∈ q, Rc m l e.1 e.2 ∧ ∃ c, lkA out e.1 = some c ∧ ¬ clt e.2 c
  un : ∀ p c, lkA out p = some c → p ∉ dn → (p, c) ∈ q
  cl : ∀ p' ∈ dn, p' ≠ p → ∃ c, lkA out p' = some c ∧ ∀ w ∈ wys m l p', ∃ c', lkA out w.to = some c' ∧ ¬ clt (cad c w) c'
  me : lkA out p = some c ∧ p ∈ dn ∧ ∀ w ∈ (wys m l p).take k, ∃ c', lkA out w.to = some c' ∧ ¬ clt (cad c w) c'
  md : ∀ p' ∈ dn, ∀ c', lkA out p' = some c' → ¬ clt c c'
  mq : ∀ e ∈ q, ¬ clt e.2 c
theorem DJ.pop {out : List (Plc × Cst)} {dn : List Plc} {x : Plc × Cst} {q : List (Plc × Cst)} (h : DJ m l out dn (x :: q)) (hmin : ∀ e ∈ q, ¬ clt e.2 x.2) (hx : x.1 ∉ dn) : DJI m l x.1 x.2 0 out (x.1 :: dn) q ∧ lkA out x.1 = some x.2 := by
  obtain ⟨_, c, hc, hle⟩ := h.qs x (List.mem_cons_self ..)
  have hu := h.un _ _ hc hx
  have hcx : c = x.2 := by
    have h1 : ¬ clt c x.2 := by
      rcases List.mem_cons.1 hu with e | e
      · rw [← e]; exact A0
      · exact hmin _ e
    rcases Ig c x.2 with h2 | h2 | h2
    · exact absurd h2 h1
    · exact h2
    · exact absurd h2 hle
  subst hcx
  refine ⟨⟨h.nd, h.b, h.so, fun e he => h.qs e (List.mem_cons_of_mem _ he), fun p c a b => ?_, fun p' hp' hne => ?_, ⟨hc, List.mem_cons_self .., fun w hw => by cases hw⟩, fun p' hp' c' hc' => ?_, hmin⟩, hc⟩
  · have hne : p ≠ x.1 := fun e => b (by rw [e]; exact List.mem_cons_self ..)
    rcases List.mem_cons.1 (h.un p c a fun hp => b (List.mem_cons_of_mem _ hp)) with e | e
    · exact absurd (congrArg Prod.fst e) hne
    · exact e
  · rcases List.mem_cons.1 hp' with e | hp'
    · exact absurd e hne
    · exact h.cl p' hp'
  · rcases List.mem_cons.1 hp' with rfl | hp'
    · rw [hc] at hc'
      cases hc'
      exact A0
    · exact h.mo p' hp' c' hc' x (List.mem_cons_self ..)
theorem P4 (hm : BJ m) (hl : AZ m l) {p : Plc} {c : Cst} {w : Wy} (hw : w ∈ wys m l p) : clt c (cad c w) := by
  have := (FB hm hl hw).1
  left
  show c.1 < c.1 + w.tk
  omega
theorem DJI.push (hm : BJ m) (hl : AZ m l) {p : Plc} {c : Cst} {k : Nat} {out : List (Plc × Cst)} {dn : List Plc} {q : List (Plc × Cst)} (h : DJI m l p c k out dn q) (hk : k < (wys m l p).length)
    (hlt : ∀ c', lkA out (wys m l p)[k].to = some c' → clt (cad c (wys m l p)[k]) c') : DJI m l p c (k + 1) (upA out (wys m l p)[k].to (cad c (wys m l p)[k])) dn (((wys m l p)[k].to, cad c (wys m l p)[k]) :: q) := by
  have hw := List.getElem_mem hk
  have etk : (wys m l p).take (k + 1) = (wys m l p).take k ++ [(wys m l p)[k]] := List.take_succ_eq_append_getElem hk
  generalize (wys m l p)[k] = w at *
  have hc := P4 hm hl (c := c) hw
  have hnd : w.to ∉ dn := fun hd => by
    by_cases e : w.to = p
    · have h1 := h.me.1
      rw [← e] at h1
      have h2 := hlt _ h1
      exact A0 (BD h2 hc)
    · obtain ⟨c', h1, _⟩ := h.cl _ hd e
      have h2 := hlt _ h1
      exact h.md _ hd _ h1 (BD hc h2)
  have hRc := (h.so _ _ h.me.1).way hl hw
  have hne : ∀ p' ∈ dn, p' ≠ w.to := fun p' hp' e => hnd (e ▸ hp')
  have keep : ∀ {a : Plc} {x : Cst}, (∃ c', lkA out a = some c' ∧ ¬ clt x c') → ∃ c', lkA (upA out w.to (cad c w)) a = some c' ∧ ¬ clt x c' := by
    rintro a x ⟨c', h1, h2⟩
    by_cases e : a = w.to
    · subst e
      refine ⟨_, by rw [Br, if_pos rfl], fun h3 => h2 (BD h3 (hlt _ h1))⟩
    · exact ⟨c', by rw [Br, if_neg e]; exact h1, h2⟩
  refine ⟨IB h.nd, ?_, fun p' c' h' => ?_, fun e he => ?_, fun p' c' h' hd => ?_, fun p' hp' hpn => ?_, ⟨?_, h.me.2.1, fun v hv => ?_⟩, fun p' hp' c' h' => ?_, fun e he => ?_⟩
  · rw [Br]
    split
    · rename_i e
      have h1 := hlt (0, 0) (by rw [← e]; exact h.b)
      have h2 := (h.so _ _ h.me.1).ok hm hl
      have h3 := (FB hm hl hw).1
      exfalso
      unfold clt cad at h1
      dsimp only at h1
      omega
    · exact h.b
  · rw [Br] at h'
    split at h'
    · rename_i e
      cases h'
      rw [e]
      exact hRc
    · exact h.so _ _ h'
  · rcases List.mem_cons.1 he with rfl | he
    · exact ⟨hRc, _, by rw [Br, if_pos rfl], A0⟩
    · obtain ⟨h1, h2⟩ := h.qs e he
      exact ⟨h1, keep h2⟩
  · rw [Br] at h'
    split at h'
    · rename_i e
      cases h'
      rw [e]
      exact List.mem_cons_self ..
    · exact List.mem_cons_of_mem _ (h.un _ _ h' hd)
  · obtain ⟨c', h1, h2⟩ := h.cl p' hp' hpn
    exact ⟨c', by rw [Br, if_neg (hne p' hp')]; exact h1, fun v hv => keep (h2 v hv)⟩
  · rw [Br, if_neg (hne p h.me.2.1)]
    exact h.me.1
  · rw [etk] at hv
    rcases List.mem_append.1 hv with hv | hv
    · exact keep (h.me.2.2 v hv)
    · rw [List.mem_singleton] at hv
      subst hv
      exact ⟨_, by rw [Br, if_pos rfl], A0⟩
  · rw [Br, if_neg (hne p' hp')] at h'
    exact h.md p' hp' c' h'
  · rcases List.mem_cons.1 he with rfl | he
    · exact fun h' => A0 (BD hc h')
    · exact h.mq e he
theorem DJI.pass {p : Plc} {c : Cst} {k : Nat} {out : List (Plc × Cst)} {dn : List Plc} {q : List (Plc × Cst)} (h : DJI m l p c k out dn q) (hk : k < (wys m l p).length)
    (hge : ∃ c', lkA out (wys m l p)[k].to = some c' ∧ ¬ clt (cad c (wys m l p)[k]) c') : DJI m l p c (k + 1) out dn q := by
  refine ⟨h.nd, h.b, h.so, h.qs, h.un, h.cl, ⟨h.me.1, h.me.2.1, fun v hv => ?_⟩, h.md, h.mq⟩
  rw [List.take_succ_eq_append_getElem hk] at hv
  rcases List.mem_append.1 hv with hv | hv
  · exact h.me.2.2 v hv
  · rw [List.mem_singleton] at hv
    subst hv
    exact hge
theorem DJI.perm {p : Plc} {c : Cst} {k : Nat} {out : List (Plc × Cst)} {dn : List Plc} {q q' : List (Plc × Cst)} (h : DJI m l p c k out dn q) (hq : ∀ e, e ∈ q' ↔ e ∈ q) : DJI m l p c k out dn q' :=
  ⟨h.nd, h.b, h.so, fun e he => h.qs e ((hq e).1 he), fun p c a b => (hq _).2 (h.un p c a b), h.cl, h.me, h.md, fun e he => h.mq e ((hq e).1 he)⟩
theorem DJI.done {p : Plc} {c : Cst} {out : List (Plc × Cst)} {dn : List Plc} {q : List (Plc × Cst)} (h : DJI m l p c (wys m l p).length out dn q) : DJ m l out dn q := by
  refine ⟨h.nd, h.b, h.so, h.qs, h.un, fun p' hp' => ?_, fun p' hp' c' hc' e he => Df (h.md p' hp' c' hc') (h.mq e he)⟩
  by_cases e : p' = p
  · subst e
    refine ⟨c, h.me.1, fun w hw => h.me.2.2 w ?_⟩
    rw [List.take_length]
    exact hw
  · exact h.cl p' hp' e
structure Lst (m : Mp) (l : Lry) (out : List (Plc × Cst)) : Prop where
  nd : (out.map Prod.fst).Nodup
  so : ∀ p c, lkA out p = some c → Rc m l p c
  le : ∀ p c, Rc m l p c → ∃ c', lkA out p = some c' ∧ ¬ clt c c'
theorem DJ.fin (hl : AZ m l) {out : List (Plc × Cst)} {dn : List Plc} (h : DJ m l out dn []) : Lst m l out := by
  refine ⟨h.nd, h.so, fun p c hp => ?_⟩
  refine Rc.ind (Q := fun p c => ∃ c', lkA out p = some c' ∧ ¬ clt c c') hl ⟨_, h.b, A0⟩ (fun p c w _ hq hw => ?_) hp
  obtain ⟨c1, h1, h2⟩ := hq
  have hd : p ∈ dn := by
    by_cases e : p ∈ dn
    · exact e
    · have := h.un p c1 h1 e
      cases this
  obtain ⟨c2, h3, h4⟩ := h.cl p hd
  rw [h1] at h3
  cases h3
  obtain ⟨c', h5, h6⟩ := h4 w hw
  exact ⟨c', h5, Df h6 (P8 h2)⟩
def KL (m : Mp) (l : Lry) : List Plc := (List.range m.pk.length).flatMap fun t : Nat => (List.range (l.dr.toNat + 1)).map fun u : Nat => (((t : Nat) : Int), ((u : Nat) : Int))
theorem Mw {p : Plc} (h1 : 0 ≤ p.1 ∧ p.1 < m.pk.length) (h2 : 0 ≤ p.2 ∧ p.2 ≤ l.dr) : p ∈ KL m l := by
  unfold KL
  refine List.mem_flatMap.2 ⟨p.1.toNat, List.mem_range.2 (by omega), List.mem_map.2 ⟨p.2.toNat, List.mem_range.2 (by omega), ?_⟩⟩
  apply Prod.ext
  · show ((p.1.toNat : Nat) : Int) = p.1; omega
  · show ((p.2.toNat : Nat) : Int) = p.2; omega
def und (m : Mp) (l : Lry) (dn : List Plc) : Nat := ((KL m l).filter fun p => decide (p ∉ dn)).length
theorem SF {dn : List Plc} {p : Plc} (hp : p ∈ KL m l) (hd : p ∉ dn) : und m l (p :: dn) < und m l dn := by
  unfold und
  generalize KL m l = U at *
  have mono : ∀ U : List Plc, (U.filter fun x => decide (x ∉ p :: dn)).length ≤ (U.filter fun x => decide (x ∉ dn)).length := by
    intro U
    induction U with
    | nil => exact Nat.le_refl _
    | cons y U ih =>
      simp only [List.filter_cons]
      by_cases h1 : y ∉ p :: dn
      · have h2 : y ∉ dn := fun h => h1 (List.mem_cons_of_mem _ h)
        rw [if_pos (by simpa using h1), if_pos (by simpa using h2)]
        simp only [List.length_cons]; omega
      · rw [if_neg (by simpa using h1)]
        split
        · simp only [List.length_cons]; omega
        · exact ih
  induction U with
  | nil => cases hp
  | cons y U ih =>
    simp only [List.filter_cons]
    rcases List.mem_cons.1 hp with rfl | hp
    · have := mono U
      rw [if_neg (by simp), if_pos (by simpa using hd)]
      simp only [List.length_cons]; omega
    · have := ih hp
      by_cases h1 : y ∉ p :: dn
      · have h2 : y ∉ dn := fun h => h1 (List.mem_cons_of_mem _ h)
        rw [if_pos (by simpa using h1), if_pos (by simpa using h2)]
        simp only [List.length_cons]; omega
      · rw [if_neg (by simpa using h1)]
        split
        · simp only [List.length_cons]; omega
        · exact this
theorem RS {p : Plc} {i : Nat} : (wy1 m l p i).length ≤ 2 := by
  unfold wy1
  split
  · split <;> split <;> simp
  · simp
theorem Ln (hm : BJ m) {p : Plc} : (wys m l p).length ≤ 60 := by
  unfold wys
  have : ∀ n, ((List.range n).flatMap (wy1 m l p)).length ≤ 2 * n := by
    intro n
    induction n with
    | zero => simp
    | succ n ih =>
      rw [List.range_succ, List.flatMap_append, List.length_append]
      have := RS (m := m) (l := l) (p := p) (i := n)
      simp only [List.flatMap_cons, List.flatMap_nil, List.append_nil]
      omega
  have h1 := this m.rs.length
  have h2 := hm.k
  omega
end
end Go.Proofs.Ytkdjkkimngeloaa
namespace Go.Proofs.Ytkdjkkimngeloaa
open Go.RowKit
section
variable {m : Mp} {l : Lry}
def Pth (m : Mp) (l : Lry) : Plc → List Wy → Plc → Prop
  | p, [], q => p = q
  | p, w :: ws, q => w ∈ wys m l p ∧ Pth m l w.to ws q
def cs : List Wy → Cst
  | [] => (0, 0)
  | w :: ws => cad (cs ws) w
def lgs : Int → List Wy → List Leg
  | _, [] => []
  | n, w :: ws => (w.rd, n + w.rst) :: lgs (n + w.tk) ws
def csa (a b : Cst) : Cst := (a.1 + b.1, a.2 + b.2)
theorem Fg : ∀ {a b : List Wy}, cs (a ++ b) = csa (cs a) (cs b)
  | [], b => by unfold csa; simp [cs]
  | w :: a, b => by
    show cad (cs (a ++ b)) w = csa (cad (cs a) w) (cs b)
    rw [Fg]
    unfold cad csa
    apply Prod.ext
    · show _ + _ + w.tk = _ + w.tk + _
      omega
    · show _ + _ + (1 : Int) = _ + 1 + _
      omega
theorem JG : ∀ {a b : List Wy} {n : Int}, lgs n (a ++ b) = lgs n a ++ lgs (n + (cs a).1) b
  | [], b, n => by simp [cs, lgs]
  | w :: a, b, n => by
    show _ :: lgs _ (a ++ b) = _ :: (lgs _ a ++ lgs _ b)
    rw [JG]
    have : n + w.tk + (cs a).1 = n + (cs (w :: a)).1 := by show _ = n + ((cs a).1 + w.tk); omega
    rw [this]
theorem Em : ∀ {a : List Wy} {n : Int}, (lgs n a).length = a.length
  | [], _ => rfl
  | _ :: a, _ => congrArg (· + 1) Em
theorem IA : ∀ {a : List Wy}, (cs a).2 = a.length
  | [] => rfl
  | w :: a => by show (cs a).2 + 1 = _; rw [IA]; simp
theorem Pth.app : ∀ {a b : List Wy} {p q r : Plc}, Pth m l p a q → Pth m l q b r → Pth m l p (a ++ b) r
  | [], _, _, _, _, h, h' => by
    have h : _ = _ := h
    subst h
    exact h'
  | _ :: _, _, _, _, _, h, h' => ⟨h.1, Pth.app h.2 h'⟩
theorem Pth.split : ∀ {a b : List Wy} {p r : Plc}, Pth m l p (a ++ b) r → ∃ q, Pth m l p a q ∧ Pth m l q b r
  | [], _, p, _, h => ⟨p, rfl, h⟩
  | _ :: _, _, _, _, h => by
    obtain ⟨q, h1, h2⟩ := Pth.split h.2
    exact ⟨q, ⟨h.1, h1⟩, h2⟩
theorem Pth.fn : ∀ {a : List Wy} {p q r : Plc}, Pth m l p a q → Pth m l p a r → q = r
  | [], _, _, _, h, h' => by
    have h : _ = _ := h
    have h' : _ = _ := h'
    exact h.symm.trans h'
  | _ :: _, _, _, _, h, h' => Pth.fn h.2 h'.2
theorem LG (hl : AZ m l) : ∀ {j : List Leg} {s s' : Std}, Jw m l (JS m l) s j s' → ∃ ws, Pth m l (s.tn, s.dv) ws (s'.tn, s'.dv) ∧ j = lgs s.sn ws ∧ s'.sn = s.sn + (cs ws).1
  | [], s, s', h => by
    have h : s = s' := h
    subst h
    exact ⟨[], rfl, rfl, by show _ = s.sn + 0; omega⟩
  | x :: j, s, s', ⟨a, b, s1, c, d⟩ => by
    obtain ⟨w, hw, rfl, rfl⟩ := (JE hl).1 ⟨a, b, c⟩
    obtain ⟨ws, h1, h2, h3⟩ := LG hl d
    refine ⟨w :: ws, ⟨hw, h1⟩, ?_, ?_⟩
    · rw [h2]
      rfl
    · rw [h3]
      show s.sn + w.tk + _ = s.sn + ((cs ws).1 + w.tk)
      omega
theorem L1 (hl : AZ m l) : ∀ {ws : List Wy} {s : Std} {q : Plc}, Pth m l (s.tn, s.dv) ws q → Jw m l (JS m l) s (lgs s.sn ws) ⟨q.1, s.sn + (cs ws).1, q.2⟩
  | [], s, q, h => by
    have h : (s.tn, s.dv) = q := h
    subst h
    show s = _
    cases s
    show _ = Std.mk _ (_ + 0) _
    rw [Int.add_zero]
  | w :: ws, s, q, ⟨hw, h⟩ => by
    obtain ⟨a, b, g⟩ := (JE hl).2 ⟨w, hw, rfl, rfl⟩
    refine ⟨a, b, _, g, ?_⟩
    have h1 := L1 hl (ws := ws) (s := ⟨w.tn, s.sn + w.tk, w.us⟩) h
    have e : s.sn + w.tk + (cs ws).1 = s.sn + (cs (w :: ws)).1 := by show _ = s.sn + ((cs ws).1 + w.tk); omega
    rw [← e]
    exact h1
theorem IP (hl : AZ m l) {p : Plc} {c : Cst} : Rc m l p c ↔ ∃ ws, Pth m l (l.fr, 0) ws p ∧ cs ws = c := by
  constructor
  · rintro ⟨j, s, h, rfl, rfl⟩
    obtain ⟨ws, h1, h2, h3⟩ := LG hl h
    refine ⟨ws, h1, Prod.ext ?_ ?_⟩
    · show _ = s.sn - l.rdy
      have h3 : s.sn = l.rdy + (cs ws).1 := h3
      omega
    · show _ = (j.length : Int)
      rw [h2, Em, IA]
  · rintro ⟨ws, h, rfl⟩
    refine ⟨_, _, L1 hl (s := bgn l) h, rfl, Prod.ext ?_ ?_⟩
    · show _ = l.rdy + (cs ws).1 - l.rdy
      omega
    · show _ = ((lgs _ ws).length : Int)
      rw [Em, IA]
theorem Iy (hm : BJ m) (hl : AZ m l) : ∀ {ws : List Wy} {p q : Plc}, Pth m l p ws q → (ws = [] ∧ cs ws = (0, 0)) ∨ (clt (0, 0) (cs ws) ∧ 1 ≤ (cs ws).1)
  | [], _, _, _ => .inl ⟨rfl, rfl⟩
  | w :: ws, p, q, ⟨hw, h⟩ => by
    have h1 := (FB hm hl hw).1
    have : 0 ≤ (cs ws).1 := by
      rcases Iy hm hl h with ⟨_, e⟩ | ⟨_, e⟩
      · rw [e]
        exact Int.le_refl _
      · omega
    right
    constructor
    · left
      show 0 < (cs ws).1 + w.tk
      omega
    · show 1 ≤ (cs ws).1 + w.tk
      omega
theorem SG {a b c : Cst} (h : csa a c = csa b c) : a = b := by
  have h1 := congrArg Prod.fst h
  have h2 := congrArg Prod.snd h
  unfold csa at h1 h2
  dsimp only at h1 h2
  exact Prod.ext (by omega) (by omega)
theorem Ip {a b : Cst} {w : Wy} : csa a (cad b w) = csa (cad a w) b := by
  unfold csa cad
  exact Prod.ext (by show _ + (_ + w.tk) = _ + w.tk + _; omega) (by show _ + (_ + (1 : Int)) = _ + 1 + _; omega)
theorem NY (hm : BJ m) {p : Plc} {w : Wy} (hw : w ∈ wys m l p) : w.to ≠ p := by
  unfold wys at hw
  obtain ⟨i, hi, hw⟩ := List.mem_flatMap.1 hw
  have hi := List.mem_range.1 hi
  obtain ⟨_, _, h3, _⟩ := hm.rd (x := ((i : Int), 0)) ⟨by show (0 : Int) ≤ (i : Int); omega, by show (i : Int) < _; omega⟩
  have h3 : ¬ (AD m i).1 = (AD m i).2.1 := h3
  obtain ⟨⟨h1, _⟩, h2⟩ := GH.1 hw
  intro e
  have e := congrArg Prod.fst e
  rcases h2 with ⟨_, rfl⟩ | ⟨_, rfl⟩
  · have e : (AD m i).1 + (AD m i).2.1 - p.1 = p.1 := e
    omega
  · have e : (AD m i).1 + (AD m i).2.1 - p.1 = p.1 := e
    omega
structure LfI (m : Mp) (l : Lry) (t : Int) (os : List Plc) (k : Nat) (lf : List (Plc × Cst)) : Prop where
  nd : (lf.map Prod.fst).Nodup
  ky : ∀ p c, lkA lf p = some c → p ∈ os.take k
  so : ∀ p c, lkA lf p = some c → ∃ ws q, Pth m l p ws q ∧ q.1 = t ∧ cs ws = c
  ex : ∀ i (_ : i < os.length), i < k → ∀ c, lkA lf os[i] = some c → os[i].1 ≠ t → ∃ w ∈ wys m l os[i], w.to ∈ os.take i ∧ ∃ c', lkA lf w.to = some c' ∧ c = cad c' w
  to : ∀ p ∈ os.take k, p.1 = t → lkA lf p = some (0, 0)
  co : ∀ i (_ : i < os.length), i < k → os[i].1 ≠ t → ∀ w ∈ wys m l os[i], w.to ∈ os.take i → ∀ c', lkA lf w.to = some c' → ∃ c, lkA lf os[i] = some c ∧ ¬ clt (cad c' w) c
structure LfJ (m : Mp) (l : Lry) (t : Int) (os : List Plc) (k : Nat) (p : Plc) (n : Nat) (lf : List (Plc × Cst)) : Prop where
  nd : (lf.map Prod.fst).Nodup
  ky : ∀ p' c, lkA lf p' = some c → p' = p ∨ p' ∈ os.take k
  so : ∀ p c, lkA lf p = some c → ∃ ws q, Pth m l p ws q ∧ q.1 = t ∧ cs ws = c
  ex : ∀ i (_ : i < os.length), i < k → ∀ c, lkA lf os[i] = some c → os[i].1 ≠ t → ∃ w ∈ wys m l os[i], w.to ∈ os.take i ∧ ∃ c', lkA lf w.to = some c' ∧ c = cad c' w
  to : ∀ p ∈ os.take k, p.1 = t → lkA lf p = some (0, 0)
  co : ∀ i (_ : i < os.length), i < k → os[i].1 ≠ t → ∀ w ∈ wys m l os[i], w.to ∈ os.take i → ∀ c', lkA lf w.to = some c' → ∃ c, lkA lf os[i] = some c ∧ ¬ clt (cad c' w) c
  me : ∀ c, lkA lf p = some c → ∃ w ∈ wys m l p, w.to ∈ os.take k ∧ ∃ c', lkA lf w.to = some c' ∧ c = cad c' w
  mc : ∀ w ∈ (wys m l p).take n, ∀ c', lkA lf w.to = some c' → ∃ c, lkA lf p = some c ∧ ¬ clt (cad c' w) c
theorem LfI.init {t : Int} {os : List Plc} : LfI m l t os 0 [] :=
  ⟨List.nodup_nil, fun _ _ h => (by cases h), fun _ _ h => (by cases h), fun _ _ h => (by omega), fun _ h => (by cases h), fun _ _ h => (by omega)⟩
variable {t : Int} {os : List Plc} {k : Nat} {lf : List (Plc × Cst)}
theorem Ly (hn : os.Nodup) (hk : k < os.length) {i : Nat} (hi : i ≤ k) {p : Plc} (hp : p ∈ os.take i) : p ≠ os[k] := by
  intro e
  subst e
  obtain ⟨j, hj, e⟩ := List.mem_iff_getElem.1 hp
  rw [List.length_take] at hj
  rw [List.getElem_take] at e
  exact (List.pairwise_iff_getElem.1 hn) j k (by omega) hk (by omega) e
theorem LfI.here (h : LfI m l t os k lf) (hn : os.Nodup) (hk : k < os.length) (ht : os[k].1 = t) : LfI m l t os (k + 1) (upA lf os[k] (0, 0)) := by
  have hb : ∀ {i : Nat}, i ≤ k → ∀ {p : Plc}, p ∈ os.take i → lkA (upA lf os[k] (0, 0)) p = lkA lf p := fun hi p hp => by rw [Br, if_neg (Ly hn hk hi hp)]
  have etk : os.take (k + 1) = os.take k ++ [os[k]] := List.take_succ_eq_append_getElem hk
  have hi0 : ∀ {i : Nat} (hi : i < os.length), i < k → os[i] ∈ os.take k := fun hi hik => by
    rw [List.mem_iff_getElem]
    exact ⟨_, by rw [List.length_take]; omega, List.getElem_take ..⟩
  refine ⟨IB h.nd, fun p c hp => ?_, fun p c hp => ?_, fun i hi hik c hc hne => ?_, fun p hp hpt => ?_, fun i hi hik hne w hw hwi c' hc' => ?_⟩
  · rw [Br] at hp
    rw [etk, List.mem_append, List.mem_singleton]
    split at hp
    · rename_i e
      exact .inr e
    · exact .inl (h.ky _ _ hp)
  · rw [Br] at hp
    split at hp
    · rename_i e
      cases hp
      rw [e]
      exact ⟨[], _, rfl, ht, rfl⟩
    · exact h.so _ _ hp
  · by_cases e : i = k
    · subst e
      exact absurd ht hne
    · have hik : i < k := by omega
      rw [hb (Nat.le_refl _) (hi0 hi hik)] at hc
      obtain ⟨w, h1, h2, c', h3, h4⟩ := h.ex i hi hik c hc hne
      exact ⟨w, h1, h2, c', by rw [hb (by omega) h2]; exact h3, h4⟩
  · rw [etk, List.mem_append, List.mem_singleton] at hp
    rcases hp with hp | rfl
    · rw [hb (Nat.le_refl _) hp]
      exact h.to p hp hpt
    · rw [Br, if_pos rfl]
  · by_cases e : i = k
    · subst e
      exact absurd ht hne
    · have hik : i < k := by omega
      rw [hb (by omega) hwi] at hc'
      rw [hb (Nat.le_refl _) (hi0 hi hik)]
      exact h.co i hi hik hne w hw hwi c' hc'
theorem LfI.beg (h : LfI m l t os k lf) (hn : os.Nodup) (hk : k < os.length) : LfJ m l t os k os[k] 0 lf :=
  ⟨h.nd, fun p c hp => .inr (h.ky p c hp), h.so, h.ex, h.to, h.co, fun c hc => absurd rfl (Ly hn hk (Nat.le_refl _) (h.ky _ _ hc)), fun w hw => by cases hw⟩
theorem LfJ.fin {p : Plc} (h : LfJ m l t os k p (wys m l p).length lf) (hk : k < os.length) (hp : os[k] = p) (ht : p.1 ≠ t) : LfI m l t os (k + 1) lf := by
  subst hp
  have etk : os.take (k + 1) = os.take k ++ [os[k]] := List.take_succ_eq_append_getElem hk
  refine ⟨h.nd, fun p c hp => ?_, h.so, fun i hi hik c hc hne => ?_, fun p hp hpt => ?_, fun i hi hik hne w hw hwi c' hc' => ?_⟩
  · rw [etk, List.mem_append, List.mem_singleton]
    exact (h.ky _ _ hp).symm
  · by_cases e : i = k
    · subst e
      exact h.me c hc
    · exact h.ex i hi (by omega) c hc hne
  · rw [etk, List.mem_append, List.mem_singleton] at hp
    rcases hp with hp | rfl
    · exact h.to p hp hpt
    · exact absurd hpt ht
  · by_cases e : i = k
    · subst e
      exact h.mc w (by rw [List.take_length]; exact hw) c' hc'
    · exact h.co i hi (by omega) hne w hw hwi c' hc'
theorem LfJ.pass {p : Plc} {n : Nat} (h : LfJ m l t os k p n lf) (hn : n < (wys m l p).length) (hp : ∀ c', lkA lf (wys m l p)[n].to = some c' → ∃ c, lkA lf p = some c ∧ ¬ clt (cad c' (wys m l p)[n]) c) : LfJ m l t os k p (n + 1) lf := by
  refine ⟨h.nd, h.ky, h.so, h.ex, h.to, h.co, h.me, fun w hw => ?_⟩
  rw [List.take_succ_eq_append_getElem hn, List.mem_append, List.mem_singleton] at hw
  rcases hw with hw | rfl
  · exact h.mc w hw
  · exact hp
theorem LfJ.less (hm : BJ m) {p : Plc} {n : Nat} (h : LfJ m l t os k p n lf) (hos : os.Nodup) (hk : k < os.length) (hpk : os[k] = p) (hn : n < (wys m l p).length) {c' : Cst} (hc : lkA lf (wys m l p)[n].to = some c') (hlt : ∀ c, lkA lf p = some c → clt (cad c' (wys m l p)[n]) c) :
    LfJ m l t os k p (n + 1) (upA lf p (cad c' (wys m l p)[n])) := by
  subst hpk
  have hw := List.getElem_mem hn
  have etk : (wys m l os[k]).take (n + 1) = (wys m l os[k]).take n ++ [(wys m l os[k])[n]] := List.take_succ_eq_append_getElem hn
  generalize (wys m l os[k])[n] = w at *
  have hne := NY hm hw
  have hwk : w.to ∈ os.take k := (h.ky _ _ hc).resolve_left hne
  have hb : ∀ {i : Nat}, i ≤ k → ∀ {p : Plc}, p ∈ os.take i → lkA (upA lf os[k] (cad c' w)) p = lkA lf p := fun hi p hp => by rw [Br, if_neg (Ly hos hk hi hp)]
  have hi0 : ∀ {i : Nat} (hi : i < os.length), i < k → os[i] ∈ os.take k := fun hi hik => by
    rw [List.mem_iff_getElem]
    exact ⟨_, by rw [List.length_take]; omega, List.getElem_take ..⟩
  refine ⟨IB h.nd, fun p c hp => ?_, fun p c hp => ?_, fun i hi hik c hc hne => ?_, fun p hp hpt => ?_, fun i hi hik hne w hw hwi c' hc' => ?_, fun c hc1 => ?_, fun v hv c1 hc1 => ?_⟩
  · rw [Br] at hp
    split at hp
    · rename_i e
      exact .inl e
    · exact h.ky _ _ hp
  · rw [Br] at hp
    split at hp
    · rename_i e
      cases hp
      rw [e]
      obtain ⟨ws, q, h1, h2, h3⟩ := h.so _ _ hc
      exact ⟨w :: ws, q, ⟨hw, h1⟩, h2, by show cad (cs ws) w = _; rw [h3]⟩
    · exact h.so _ _ hp
  · rw [hb (Nat.le_refl _) (hi0 hi hik)] at hc
    obtain ⟨w, h1, h2, c', h3, h4⟩ := h.ex i hi hik c hc hne
    exact ⟨w, h1, h2, c', by rw [hb (by omega) h2]; exact h3, h4⟩
  · rw [hb (Nat.le_refl _) hp]
    exact h.to p hp hpt
  · rw [hb (by omega) hwi] at hc'
    rw [hb (Nat.le_refl _) (hi0 hi hik)]
    exact h.co i hi hik hne w hw hwi c' hc'
  · rw [Br, if_pos rfl] at hc1
    cases hc1
    exact ⟨w, hw, hwk, c', by rw [hb (Nat.le_refl _) hwk]; exact hc, rfl⟩
  · rw [Br, if_pos rfl]
    refine ⟨_, rfl, ?_⟩
    rw [etk, List.mem_append, List.mem_singleton] at hv
    rcases hv with hv | rfl
    · rw [Br] at hc1
      split at hc1
      · rename_i e
        have hvm : v ∈ wys m l os[k] := List.mem_of_mem_take hv
        exact absurd e (NY hm hvm)
      · obtain ⟨c2, h1, h2⟩ := h.mc v hv c1 hc1
        exact fun h3 => h2 (BD h3 (hlt _ h1))
    · rw [hb (Nat.le_refl _) hwk, hc] at hc1
      cases hc1
      exact A0
structure Bk (m : Mp) (l : Lry) (t : Int) (out : List (Plc × Cst)) (best : Cst) (lf : List (Plc × Cst)) : Prop where
  ls : Lst m l out
  hb : ∃ p, p.1 = t ∧ lkA out p = some best
  mb : ∀ p c, p.1 = t → lkA out p = some c → ¬ clt c best
  os : ∃ os : List Plc, os.Nodup ∧ (∀ p, p ∈ os ↔ ∃ c, lkA out p = some c ∧ ¬ clt best c) ∧
    os.Pairwise (fun p q => ∀ c d, lkA out p = some c → lkA out q = some d → ¬ clt c d) ∧ LfI m l t os os.length lf
variable {out : List (Plc × Cst)} {best : Cst}
theorem Bk.lo (hl : AZ m l) (h : Bk m l t out best lf) {ws : List Wy} {q : Plc} (hw : Pth m l (l.fr, 0) ws q) (hq : q.1 = t) : ¬ clt (cs ws) best := by
  obtain ⟨c', h1, h2⟩ := h.ls.le _ _ ((IP hl).2 ⟨ws, hw, rfl⟩)
  exact Df (h.mb _ _ hq h1) h2
theorem Bk.opt (hm : BJ m) (hl : AZ m l) (h : Bk m l t out best lf) : ∀ {ws wd : List Wy} {p q : Plc}, Pth m l (l.fr, 0) wd p → Pth m l p ws q → q.1 = t → csa (cs wd) (cs ws) = best → lkA lf p = some (cs ws) := by
  obtain ⟨os, hnd, hos, hsort, hlf⟩ := h.os
  have hfin : os.take os.length = os := List.take_length
  -- the cost of a place on a best journey
  have cost : ∀ {ws wd : List Wy} {p q : Plc}, Pth m l (l.fr, 0) wd p → Pth m l p ws q → q.1 = t → csa (cs wd) (cs ws) = best → lkA out p = some (cs wd) ∧ p ∈ os := by
    intro ws wd p q h1 h2 h3 h4
    obtain ⟨c, e1, e2⟩ := h.ls.le _ _ ((IP hl).2 ⟨wd, h1, rfl⟩)
    obtain ⟨wd', g1, g2⟩ := (IP hl).1 (h.ls.so _ _ e1)
    have g3 := h.lo hl (g1.app h2) h3
    rw [Fg, g2, ← h4] at g3
    have e : c = cs wd := by
      rcases Ig c (cs wd) with a | a | a
      · exfalso
        apply g3
        unfold clt csa at *
        dsimp only
        omega
      · exact a
      · exact absurd a e2
    subst e
    refine ⟨e1, (hos p).2 ⟨_, e1, ?_⟩⟩
    have : ¬ clt (cs ws) (0, 0) := by
      rcases Iy hm hl h2 with ⟨_, a⟩ | ⟨a, _⟩
      · rw [a]; exact A0
      · exact fun b => A0 (BD a b)
    rw [← h4]
    unfold clt csa at *
    dsimp only at *
    omega
  intro ws
  induction ws with
  | nil =>
    intro wd p q h1 h2 h3 h4
    have e : p = q := h2
    subst e
    exact hlf.to p (by rw [hfin]; exact (cost h1 h2 h3 h4).2) h3
  | cons w ws ih =>
    intro wd p q h1 h2 h3 h4
    obtain ⟨hw, h5⟩ := h2
    have h6 : csa (cs (wd ++ [w])) (cs ws) = best := by
      rw [Fg, ← h4]
      show csa (csa _ (cad (0, 0) w)) _ = csa _ (cad _ w)
      rw [Ip, Ip]
      unfold csa
      simp
    have h7 : Pth m l (l.fr, 0) (wd ++ [w]) w.to := h1.app ⟨hw, rfl⟩
    have h8 := ih h7 h5 h3 h6
    obtain ⟨c1, c2⟩ := cost (ws := w :: ws) h1 ⟨hw, h5⟩ h3 h4
    obtain ⟨d1, d2⟩ := cost h7 h5 h3 h6
    obtain ⟨i, hi, ei⟩ := List.mem_iff_getElem.1 c2
    obtain ⟨n, hn, en⟩ := List.mem_iff_getElem.1 d2
    have hlt : clt (cs wd) (cs (wd ++ [w])) := by
      have : cs (wd ++ [w]) = cad (cs wd) w := by
        rw [Fg]
        show csa _ (cad (0, 0) w) = _
        rw [Ip]
        unfold csa
        simp
      rw [this]
      exact P4 hm hl hw
    have hni : n < i := by
      rcases Nat.lt_trichotomy n i with a | a | a
      · exact a
      · subst a
        rw [ei] at en
        rw [en] at c1
        rw [c1] at d1
        rw [← Option.some.inj d1] at hlt
        exact absurd hlt A0
      · exfalso
        have := (List.pairwise_iff_getElem.1 hsort) i n hi hn a (cs wd) (cs (wd ++ [w])) (by rw [ei]; exact c1) (by rw [en]; exact d1)
        exact this hlt
    have hpt : p.1 ≠ t := by
      intro e
      have g := h.lo hl h1 e
      rcases Iy hm hl (show Pth m l p (w :: ws) q from ⟨hw, h5⟩) with ⟨a, _⟩ | ⟨a, _⟩
      · cases a
      · rw [← h4] at g
        apply g
        unfold clt csa at *
        dsimp only at *
        omega
    obtain ⟨c, g1, g2⟩ := hlf.co i hi hi (by rw [ei]; exact hpt) w (by rw [ei]; exact hw) (by
      rw [List.mem_iff_getElem]
      exact ⟨n, by rw [List.length_take]; omega, by rw [List.getElem_take]; exact en⟩) _ h8
    rw [ei] at g1
    obtain ⟨ws', q', k1, k2, k3⟩ := hlf.so _ _ g1
    have g3 := h.lo hl (h1.app k1) k2
    rw [Fg, k3, ← h4] at g3
    have e : c = cs (w :: ws) := by
      rcases Ig c (cs (w :: ws)) with a | a | a
      · exfalso
        apply g3
        unfold clt csa at *
        dsimp only
        omega
      · exact a
      · exact absurd a g2
    rw [← e]
    exact g1
theorem Bk.ex (h : Bk m l t out best lf) {p : Plc} {c : Cst} (hc : lkA lf p = some c) (hp : p.1 ≠ t) : ∃ w ∈ wys m l p, ∃ c', lkA lf w.to = some c' ∧ c = cad c' w := by
  obtain ⟨os, hnd, hos, hsort, hlf⟩ := h.os
  have h1 := hlf.ky _ _ hc
  rw [List.take_length] at h1
  obtain ⟨i, hi, rfl⟩ := List.mem_iff_getElem.1 h1
  obtain ⟨w, a, _, b⟩ := hlf.ex i hi hi c hc hp
  exact ⟨w, a, b⟩
structure Wk (m : Mp) (l : Lry) (t : Int) (best : Cst) (lf : List (Plc × Cst)) (p : Plc) (wd : List Wy) : Prop where
  w : Pth m l (l.fr, 0) wd p
  c : ∃ c, lkA lf p = some c ∧ csa (cs wd) c = best
  f : ∀ ws q, Pth m l (l.fr, 0) ws q → q.1 = t → cs ws = best → (∃ r, ws = wd ++ r) ∨ ∃ u w w' r r', wd = u ++ w :: r ∧ ws = u ++ w' :: r' ∧ wlt w w'
theorem Bk.start (hm : BJ m) (hl : AZ m l) (h : Bk m l t out best lf) : Wk m l t best lf (l.fr, 0) [] := by
  obtain ⟨p, h1, h2⟩ := h.hb
  obtain ⟨ws, h3, h4⟩ := (IP hl).1 (h.ls.so _ _ h2)
  have e : csa (cs []) (cs ws) = best := by rw [h4]; unfold csa cs; simp
  exact ⟨rfl, ⟨_, h.opt hm hl (wd := []) rfl h3 h1 e, e⟩, fun ws _ _ _ _ => .inl ⟨ws, rfl⟩⟩
theorem Wk.step (hm : BJ m) (hl : AZ m l) (h : Bk m l t out best lf) {p : Plc} {wd : List Wy} (hk : Wk m l t best lf p wd) (hp : p.1 ≠ t) {n : Nat} (hn : n < (wys m l p).length) {c c' : Cst} (hc : lkA lf p = some c) (hc' : lkA lf (wys m l p)[n].to = some c') (he : cad c' (wys m l p)[n] = c)
    (hfst : ∀ i (_ : i < n) c', lkA lf ((wys m l p)[i]'(by omega)).to = some c' → cad c' ((wys m l p)[i]'(by omega)) ≠ c) : Wk m l t best lf (wys m l p)[n].to (wd ++ [(wys m l p)[n]]) := by
  have hw := List.getElem_mem hn
  obtain ⟨c0, h1, h2⟩ := hk.c
  rw [hc] at h1
  cases h1
  refine ⟨hk.w.app ⟨hw, rfl⟩, ⟨c', hc', ?_⟩, fun ws q g1 g2 g3 => ?_⟩
  · rw [Fg, ← h2, ← he]
    show csa (csa _ (cad (0, 0) _)) _ = csa _ (cad _ _)
    rw [Ip, Ip]
    unfold csa
    simp
  · rcases hk.f ws q g1 g2 g3 with ⟨r, rfl⟩ | ⟨u, w, w', r, r', e1, e2, e3⟩
    · cases r with
      | nil =>
        exfalso
        rw [List.append_nil] at g1
        exact hp (by rw [hk.w.fn g1]; exact g2)
      | cons w r =>
        obtain ⟨p', k1, k2, k3⟩ := g1.split
        obtain rfl := hk.w.fn k1
        have e : csa (cs (wd ++ [w])) (cs r) = best := by
          rw [← g3, ← Fg]
          simp
        have e1 := h.opt hm hl (hk.w.app (b := [w]) ⟨k2, rfl⟩) k3 g2 e
        obtain ⟨i, hi, ei⟩ := List.mem_iff_getElem.1 k2
        have e2 : cad (cs r) w = c := by
          have : csa (cad (cs r) w) (cs wd) = csa c (cs wd) := by
            have a : csa (cs wd) (cs (w :: r)) = csa (cs wd) c := by rw [← Fg, g3, h2]
            have b : cs (w :: r) = cad (cs r) w := rfl
            rw [b] at a
            unfold csa at *
            have a1 := congrArg Prod.fst a
            have a2 := congrArg Prod.snd a
            dsimp only at a1 a2
            exact Prod.ext (by dsimp only; omega) (by dsimp only; omega)
          exact SG this
        rcases Nat.lt_trichotomy i n with a | a | a
        · exact absurd (by rw [ei]; exact e2) (hfst i a (cs r) (by rw [ei]; exact e1))
        · subst a
          left
          exact ⟨r, by rw [ei]; simp⟩
        · right
          refine ⟨wd, (wys m l p)[n], w, [], r, by simp, rfl, ?_⟩
          rw [← ei]
          exact (List.pairwise_iff_getElem.1 (NI hl)) n i hn hi a
    · exact .inr ⟨u, w, w', r ++ [(wys m l p)[n]], r', by rw [e1]; simp, e2, e3⟩
theorem Q3 {u r r' : List Wy} {w w' : Wy} {n : Int} (h : wlt w w') : Jv (lgs n (u ++ w :: r)) (lgs n (u ++ w' :: r')) := by
  rw [JG, JG, Kk]
  rcases h with h | ⟨h1, h2⟩
  · exact .inl h
  · exact .inr ⟨h1, .inl (by show _ + w.rst < _ + w'.rst; omega)⟩
theorem Wk.fin (hm : BJ m) (hl : AZ m l) (h : Bk m l t out best lf) {p : Plc} {wd : List Wy} (hk : Wk m l t best lf p wd) (hp : p.1 = t) : Bst m l t (l.rdy + best.1, lgs l.rdy wd) ∧ cs wd = best := by
  obtain ⟨c, h1, h2⟩ := hk.c
  have e0 : cs wd = best := by
    have h3 := h.lo hl hk.w hp
    obtain ⟨os, _, _, _, hlf⟩ := h.os
    obtain ⟨ws, q, k1, k2, k3⟩ := hlf.so _ _ h1
    rcases Iy hm hl k1 with ⟨_, a⟩ | ⟨a, _⟩
    · rw [← k3, a] at h2
      rw [← h2]
      unfold csa
      simp
    · exfalso
      rw [k3] at a
      apply h3
      rw [← h2]
      unfold clt csa at *
      dsimp only at *
      omega
  refine ⟨⟨⟨p.1, l.rdy + (cs wd).1, p.2⟩, L1 hl (s := bgn l) hk.w, hp, by rw [e0], fun j' s' g1 g2 => ?_⟩, e0⟩
  obtain ⟨ws, k1, k2, k3⟩ := LG hl g1
  have k1 : Pth m l (l.fr, 0) ws (s'.tn, s'.dv) := k1
  have k2 : j' = lgs l.rdy ws := k2
  have k3 : s'.sn = l.rdy + (cs ws).1 := k3
  have h3 := h.lo hl k1 g2
  have hl1 : (best.2 : Int) = wd.length := by rw [← e0, IA]
  have hl2 : ((cs ws).2 : Int) = ws.length := IA
  rcases Ig best (cs ws) with a | a | a
  · right
    rcases a with a | ⟨a, b⟩
    · exact .inl (by show l.rdy + best.1 < s'.sn; omega)
    · refine .inr ⟨by show l.rdy + best.1 = s'.sn; omega, .inl ?_⟩
      show (lgs l.rdy wd).length < j'.length
      rw [k2, Em, Em]
      omega
  · rcases hk.f ws _ k1 g2 a.symm with ⟨r, e⟩ | ⟨u, w, w', r, r', e1, e2, e3⟩
    · have : r = [] := by
        have b : (cs ws).2 = best.2 := by rw [a]
        rw [e] at hl2
        rw [List.length_append] at hl2
        apply List.eq_nil_of_length_eq_zero
        rw [e] at b
        omega
      subst this
      left
      rw [List.append_nil] at e
      subst e
      have b : best.1 = (cs ws).1 := by rw [a]
      exact Prod.ext (by show l.rdy + best.1 = s'.sn; omega) k2.symm
    · right
      refine .inr ⟨by show l.rdy + best.1 = s'.sn; rw [a]; omega, .inr ⟨?_, ?_⟩⟩
      · show (lgs l.rdy wd).length = j'.length
        rw [k2, Em, Em]
        have b : best.2 = (cs ws).2 := by rw [a]
        omega
      · show Jv (lgs l.rdy wd) j'
        rw [k2, e1, e2]
        exact Q3 e3
  · exact absurd a h3
end
end Go.Proofs.Ytkdjkkimngeloaa
namespace Go.Proofs.Ytkdjkkimngeloaa
open Go.RowKit
abbrev Stp := Int × Int × Int × Int
def Stp.p (x : Stp) : Plc := (x.1, x.2.1)
def Stp.c (x : Stp) : Cst := (x.2.2.1, x.2.2.2)
def stp (p : Plc) (c : Cst) : Stp := (p.1, p.2, c.1, c.2)
def gs (xs : List Stp) (i : Nat) : Stp := xs.getD i (0, 0, 0, 0)
theorem DD {xs : List Stp} {i : Nat} (h : i < xs.length) : gs xs i = xs[i] := by unfold gs; simp [List.getD, h]
def Ib (xs : List Stp) (i j : Nat) : List Stp := (xs.set i (gs xs j)).set j (gs xs i)
theorem JZ {xs : List Stp} {i j : Nat} : (Ib xs i j).length = xs.length := by simp [Ib]
theorem Kd {xs : List Stp} {i j k : Nat} (hi : i < xs.length) (hj : j < xs.length) : gs (Ib xs i j) k = if k = j then gs xs i else if k = i then gs xs j else gs xs k := by
  unfold Ib
  by_cases hk : k < xs.length
  · rw [DD (by simpa using hk), List.getElem_set]
    by_cases h1 : k = j
    · subst h1; simp
    · rw [if_neg (fun e => h1 e.symm), if_neg h1, List.getElem_set]
      by_cases h2 : k = i
      · subst h2; simp
      · rw [if_neg (fun e => h2 e.symm), if_neg h2, DD hk]
  · rw [if_neg (by omega), if_neg (by omega)]
    unfold gs
    simp [List.getD, hk]
theorem ID {xs : List Stp} {i j : Nat} (hi : i < xs.length) (hj : j < xs.length) : (Ib xs i j).Perm xs := by
  unfold Ib
  rw [DD hi, DD hj]
  exact List.set_set_perm hi hj
def cl1 (xs : List Stp) (i k : Nat) : Prop := clt (gs xs i).c (gs xs k).c
instance {xs : List Stp} {i k : Nat} : Decidable (cl1 xs i k) := by unfold cl1; infer_instance
def prt (i : Nat) : Nat := (i - 1) / 2
def HO (xs : List Stp) (n : Nat) : Prop := ∀ i, 0 < i → i < n → ¬ cl1 xs i (prt i)
def UpI (xs : List Stp) (n j : Nat) : Prop := (∀ i, 0 < i → i < n → i ≠ j → ¬ cl1 xs i (prt i)) ∧ ∀ k, 0 < k → k < n → prt k = j → 0 < j → ¬ cl1 xs k (prt j)
def DnI (xs : List Stp) (n i : Nat) : Prop := (∀ k, 0 < k → k < n → prt k ≠ i → ¬ cl1 xs k (prt k)) ∧ ∀ k, 0 < k → k < n → prt k = i → 0 < i → ¬ cl1 xs k (prt i)
theorem UpI.init {xs : List Stp} {n : Nat} {x : Stp} (h : HO xs n) (hn : n = xs.length) : UpI (xs ++ [x]) (n + 1) n := by
  have e : ∀ k, k < n → gs (xs ++ [x]) k = gs xs k := fun k hk => by
    rw [DD (by simp; omega), DD (by omega), List.getElem_append_left (by omega)]
  refine ⟨fun i h0 h1 hne => ?_, fun k h0 h1 hp hj => ?_⟩
  · unfold cl1
    rw [e i (by omega), e (prt i) (by unfold prt; omega)]
    exact h i h0 (by omega)
  · unfold prt at hp
    omega
theorem UpI.stop {xs : List Stp} {n j : Nat} (h : UpI xs n j) (hs : 0 < j → ¬ cl1 xs j (prt j)) : HO xs n := fun i h0 h1 => by
  by_cases e : i = j
  · subst e
    exact hs h0
  · exact h.1 i h0 h1 e
theorem UpI.step {xs : List Stp} {n j : Nat} (h : UpI xs n j) (hn : n = xs.length) (hj : 0 < j) (hjn : j < n) (hl : cl1 xs j (prt j)) : UpI (Ib xs (prt j) j) n (prt j) := by
  have hp : prt j < j := by unfold prt; omega
  have e : ∀ k, gs (Ib xs (prt j) j) k = if k = j then gs xs (prt j) else if k = prt j then gs xs j else gs xs k := fun k => Kd (by omega) (by omega)
  unfold cl1 at hl
  refine ⟨fun i h0 h1 hne => ?_, fun k h0 h1 hpk hj0 => ?_⟩
  · unfold cl1
    rw [e i, e (prt i)]
    by_cases c1 : i = j
    · subst c1
      rw [if_pos rfl, if_neg (by omega), if_pos rfl]
      exact fun c => A0 (BD c hl)
    · rw [if_neg c1, if_neg hne]
      have h2 := h.1 i h0 h1 c1
      by_cases c2 : prt i = j
      · rw [if_pos c2]
        have := h.2 i h0 h1 c2 hj
        exact this
      · rw [if_neg c2]
        by_cases c3 : prt i = prt j
        · rw [if_pos c3]
          unfold cl1 at h2
          rw [c3] at h2
          exact fun c => h2 (BD c hl)
        · rw [if_neg c3]
          exact h2
  · unfold cl1
    have hpp : prt (prt j) < prt j := by unfold prt at *; omega
    rw [e k, e (prt (prt j)), if_neg (show prt (prt j) ≠ j by omega), if_neg (show prt (prt j) ≠ prt j by omega)]
    have hjp := h.1 (prt j) hj0 (by omega) (by omega)
    unfold cl1 at hjp
    by_cases c1 : k = j
    · subst c1
      rw [if_pos rfl]
      exact hjp
    · rw [if_neg c1, if_neg (by unfold prt at *; omega)]
      have h2 := h.1 k h0 h1 c1
      unfold cl1 at h2
      rw [hpk] at h2
      exact Df hjp h2
theorem DnI.init {xs : List Stp} {n : Nat} (h : HO xs (n + 1)) (hn : n < xs.length) : DnI (Ib xs 0 n) n 0 := by
  have e : ∀ k, gs (Ib xs 0 n) k = if k = n then gs xs 0 else if k = 0 then gs xs n else gs xs k := fun k => Kd (by omega) (by omega)
  refine ⟨fun k h0 h1 hp => ?_, fun k h0 h1 hp hi => by omega⟩
  unfold cl1
  rw [e k, e (prt k), if_neg (by omega), if_neg (by omega), if_neg (by unfold prt; omega), if_neg hp]
  exact h k h0 (by omega)
theorem DnI.stop {xs : List Stp} {n i : Nat} (h : DnI xs n i) (hs : ∀ k, 0 < k → k < n → prt k = i → ¬ cl1 xs k i) : HO xs n := fun k h0 h1 => by
  by_cases e : prt k = i
  · rw [e]
    exact hs k h0 h1 e
  · exact h.1 k h0 h1 e
theorem DnI.step {xs : List Stp} {n i j : Nat} (h : DnI xs n i) (hn : n ≤ xs.length) (hj : 0 < j) (hjn : j < n) (hp : prt j = i) (hl : cl1 xs j i) (hmin : ∀ k, 0 < k → k < n → prt k = i → ¬ cl1 xs k j) : DnI (Ib xs i j) n j := by
  have hij : i < j := by unfold prt at hp; omega
  have e : ∀ k, gs (Ib xs i j) k = if k = j then gs xs i else if k = i then gs xs j else gs xs k := fun k => Kd (by omega) (by omega)
  unfold cl1 at hl
  refine ⟨fun k h0 h1 hpk => ?_, fun k h0 h1 hpk hj0 => ?_⟩
  · unfold cl1
    rw [e k, e (prt k), if_neg hpk]
    by_cases c1 : k = j
    · subst c1
      rw [if_pos rfl, hp, if_pos rfl]
      exact fun c => A0 (BD c hl)
    · rw [if_neg c1]
      by_cases c2 : k = i
      · subst c2
        rw [if_pos rfl, if_neg (show prt k ≠ k by unfold prt; omega)]
        have := h.2 j hj hjn hp h0
        exact this
      · rw [if_neg c2]
        by_cases c3 : prt k = i
        · rw [if_pos c3]
          exact hmin k h0 h1 c3
        · rw [if_neg c3]
          exact h.1 k h0 h1 c3
  · unfold cl1
    rw [e k, e (prt j), if_neg (show prt j ≠ j by omega), if_pos hp, if_neg (by unfold prt at hpk; omega), if_neg (by unfold prt at hpk; omega)]
    have := h.1 k h0 h1 (by omega)
    unfold cl1 at this
    rw [hpk] at this
    exact this
theorem HO.min {xs : List Stp} {n : Nat} (h : HO xs n) : ∀ i, i < n → ¬ clt (gs xs i).c (gs xs 0).c := by
  intro i
  induction i using Nat.strongRecOn with
  | ind i ih =>
    intro hi
    by_cases h0 : i = 0
    · subst h0
      exact A0
    · have h1 := h i (by omega) hi
      have h2 := ih (prt i) (by unfold prt; omega) (by unfold prt; omega)
      exact Df h2 h1
end Go.Proofs.Ytkdjkkimngeloaa
