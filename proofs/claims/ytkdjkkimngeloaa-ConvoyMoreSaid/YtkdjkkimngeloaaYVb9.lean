/- Trimmed by wip/trim.py to what this claim rests on. -/
import Derived.Test.YtkdjkkimngeloaaYVb4
import Derived.Test.YtkdjkkimngeloaaYVb8
namespace Go.Proofs.Ytkdjkkimngeloaa
open Go.RowKit
theorem LS.of {P : Program} {g : FuncId} {caps args : Array Value} {σ : Hp} {R : Value → Hp → Prop} (he : As P g = true) (h : Ad P g (JQ #[] args caps) σ R) : LS P (.func (.func g) #[] caps) args σ R := fun σc hs => ⟨he, h σc hs⟩
abbrev atO (w : MW) (l : Lry) : Obj := .cells #[.slice w.pA w.pn w.pc, .slice w.rA w.rn w.rc, .int .i64 l.h, .int .i64 l.w, .int .i64 l.fr, .int .i64 l.rdy, .int .i64 l.dr, .int .i64 l.rst] 84 (0, 0)
abbrev atV (w : MW) (l : Lry) : Value := .agg #[.slice w.pA w.pn w.pc, .slice w.rA w.rn w.rc, .int .i64 l.h, .int .i64 l.w, .int .i64 l.fr, .int .i64 l.rdy, .int .i64 l.dr, .int .i64 l.rst]
abbrev plO (p : Plc) : Obj := .cells #[.int .i64 p.1, .int .i64 p.2] 132 (0, 0)
abbrev wyV (w : Wy) : Value := .agg #[.int .i64 w.rd, .int .i64 w.rst, .int .i64 w.tn, .int .i64 w.us, .int .i64 w.tk, .int .i64 1]
section
variable {σ : Hp}
theorem LL {w : MW} {l : Lry} {p : Plc} : Ad Try.prog FR #[atV w l, Bm p] σ fun v σ' => ∃ b0 b1 σ1, v = .func (.func Cw) #[] #[.pointer (some ⟨b0, 0, none⟩), .pointer (some ⟨b1, 0, none⟩)] ∧ Blk b0 (atO w l) σ σ1 ∧ Blk b1 (plO p) σ1 σ' := by
  refine ET _ _ _ _ _ _ _ _ _ _ _ _ _ _ _ _ ?_
  intro b0 n0 b1 n1
  exact AA ⟨b0, b1, _, rfl, ⟨n0, rfl⟩, n1, rfl⟩
def cnt (m : Mp) (l : Lry) (p : Plc) (i : Nat) : Nat := ((List.range i).flatMap (wy1 m l p)).length
theorem Fw {m : Mp} {l : Lry} {p : Plc} {i : Nat} : cnt m l p (i + 1) = cnt m l p i + (wy1 m l p i).length := by
  unfold cnt
  rw [List.range_succ, List.flatMap_append, List.length_append]
  simp
theorem O8 {m : Mp} {l : Lry} {p : Plc} {i : Nat} : ∀ k, i ≤ k → cnt m l p i ≤ cnt m l p k := by
  intro k
  induction k with
  | zero => intro h; obtain rfl : i = 0 := by omega
            exact Nat.le_refl _
  | succ k ih =>
    intro h
    by_cases e : i = k + 1
    · subst e; exact Nat.le_refl _
    · have := ih (by omega)
      rw [Fw]
      omega
theorem PP {m : Mp} {l : Lry} {p : Plc} : cnt m l p m.rs.length = (wys m l p).length := rfl
theorem Om {m : Mp} {l : Lry} {p : Plc} {i e : Nat} (hi : i < m.rs.length) (he : e < (wy1 m l p i).length) : ∃ h : cnt m l p i + e < (wys m l p).length, (wys m l p)[cnt m l p i + e] = (wy1 m l p i)[e] := by
  have h1 : cnt m l p i + e < (wys m l p).length := by
    have := O8 (m := m) (l := l) (p := p) (i := i + 1) m.rs.length (by omega)
    rw [Fw, PP] at this
    omega
  refine ⟨h1, ?_⟩
  have key : ∀ n, i < n → ((List.range n).flatMap (wy1 m l p))[cnt m l p i + e]? = some (wy1 m l p i)[e] := by
    intro n
    induction n with
    | zero => intro h; omega
    | succ n ih =>
      intro h
      rw [List.range_succ, List.flatMap_append]
      by_cases c : i = n
      · subst c
        rw [List.getElem?_append_right (by show cnt m l p i ≤ _; omega)]
        have : cnt m l p i + e - ((List.range i).flatMap (wy1 m l p)).length = e := by show cnt m l p i + e - cnt m l p i = e; omega
        rw [this]
        simp [he]
      · have h2 := ih (by omega)
        rw [List.getElem?_append_left]
        · exact h2
        · exact (List.getElem?_eq_some_iff.1 h2).1
  have h3 := key m.rs.length hi
  have h4 : (wys m l p)[cnt m l p i + e]? = some (wy1 m l p i)[e] := h3
  rw [List.getElem?_eq_getElem h1] at h4
  exact Option.some.inj h4
set_option maxRecDepth 20000 in
theorem IC {y : Value} {b0 b1 : Nat} {w : MW} {m : Mp} {l : Lry} {p : Plc} {I : Nat → Hp → Prop} {Q : Hp → Prop} (hm : BH m) (hl : A0 m l) (hp1 : 0 ≤ p.1 ∧ p.1 < m.pk.length) (hp2 : 0 ≤ p.2 ∧ p.2 ≤ l.dr)
    (hI : ∀ i τ, I i τ → τ b0 = some (atO w l, true) ∧ τ b1 = some (plO p, true) ∧ MIn τ w m)
    (hy : ∀ i (_ : i < (wys m l p).length) τ, I i τ → Gp Try.prog y #[wyV (wys m l p)[i]] τ fun v τ' => ∃ t : Bool, v = .bool t ∧ (t = true → I (i + 1) τ') ∧ (t = false → Q τ'))
    (h0 : I 0 σ) : Ad Try.prog Cw #[y, .pointer (some ⟨b0, 0, none⟩), .pointer (some ⟨b1, 0, none⟩)] σ fun _ σ' => I (wys m l p).length σ' ∨ Q σ' := by
  refine D0 _ _ _ _ _ ?_
  unfold BA
  obtain ⟨a0, a1, a2⟩ := hI 0 σ h0
  have hrn := a2.rn
  have hdr := hl.d
  have hrs := hl.s
  have hk30 := hm.k
  have hn12 := hm.n
  refine AM (Ez a0 rfl ?_)
  refine ⟨fun q i τ => ∃ k : Nat, q = m.rs.length - k ∧ i = k ∧ k ≤ m.rs.length ∧ I (cnt m l p k) τ, ⟨_, 0, rfl, rfl, by omega, h0⟩, ?_⟩
  rintro q i τ ⟨k, rfl, rfl, hk, hIk⟩ _
  refine Bn (fun hlt => ?_) (fun hge => ?_)
  · have hkl : k < m.rs.length := by omega
    obtain ⟨c0, c1, c2⟩ := hI _ τ hIk
    refine Ai fun J12 h12 => ?_
    have k12 : ∀ τ, I (cnt m l p (k + 1)) τ → J12 τ := by
      intro τ h
      rw [h12]
      intro _
      exact Bx (by omega) (CN _ (by omega) ⟨k + 1, rfl, rfl, by omega, h⟩)
    refine On c2.r (by omega) (by simpa using hkl) fun r hr => ?_
    simp only [Int.toNat_natCast] at hr
    have er : Aw m (k : Nat) = r := by rw [J9 (by simpa using hkl)]; simpa using hr
    have hrd := hm.rd (x := ((k : Int), 0)) ⟨by show (0 : Int) ≤ (k : Int); omega, by show (k : Int) < _; omega⟩
    have hrd : rdW m.pk.length (Aw m (k : Nat)) := hrd
    rw [er] at hrd
    obtain ⟨⟨g1, g2⟩, ⟨g3, g4⟩, g5, ⟨g6, g7⟩, _⟩ := hrd
    have wy : wy1 m l p k = if (p.1 = r.1 ∨ p.1 = r.2.1) ∧ Gc l r then
        (if p.2 + r.2.2.1 ≤ l.dr then [⟨k, 0, r.1 + r.2.1 - p.1, p.2 + r.2.2.1, r.2.2.1⟩] else []) ++
        (if gbp m.pk p.1 = true ∧ 0 < p.2 ∧ r.2.2.1 ≤ l.dr then [⟨k, l.rst, r.1 + r.2.1 - p.1, r.2.2.1, l.rst + r.2.2.1⟩] else []) else [] := by
      unfold wy1
      rw [er]
    refine Ai fun J25 h25 => Ai fun J87 h87 => ?_
    have kno : ¬ ((p.1 = r.1 ∨ p.1 = r.2.1) ∧ Gc l r) → J87 true τ := by
      intro hn
      rw [h87]
      intro _
      refine Gm (k12 _ ?_)
      rw [Fw, wy, if_neg hn]
      exact hIk
    have kyes : (p.1 = r.1 ∨ p.1 = r.2.1) → Gc l r → J87 false τ := by
      intro hend hfit
      rw [h87]
      intro _
      refine Es ?_
      rw [if_pos ⟨hend, hfit⟩] at wy
      rw [h25]
      intro _
      have hnt : 0 ≤ r.1 + r.2.1 - p.1 ∧ r.1 + r.2.1 - p.1 < m.pk.length := by rcases hend with e | e <;> omega
      refine Bx (by omega) (AM (A7 c1 rfl (Bx (by omega) ?_)))
      refine Ai fun J33 h33 => ?_
      -- behind a rest
      have k33 : ∀ τ, I (cnt m l p k + if p.2 + r.2.2.1 ≤ l.dr then 1 else 0) τ → J33 τ := by
        intro τ hIτ
        obtain ⟨d0, d1, d2⟩ := hI _ τ hIτ
        rw [h33]
        intro _
        refine Ai fun J36 h36 => ?_
        have k36 : ∀ t, (t = true ↔ gbp m.pk p.1 = true ∧ 0 < p.2 ∧ r.2.2.1 ≤ l.dr) → J36 t τ := by
          intro t ht
          rw [h36]
          intro _
          refine Ai fun J40 h40 => ?_
          refine Kw (fun et => ?_) (fun et => ?_)
          · have h3 := ht.1 et
            refine AM (A7 d0 rfl (AM (A7 d0 rfl (Bx (by omega) ?_))))
            have e1 : wy1 m l p k = (if p.2 + r.2.2.1 ≤ l.dr then [⟨k, 0, r.1 + r.2.1 - p.1, p.2 + r.2.2.1, r.2.2.1⟩] else []) ++ [⟨k, l.rst, r.1 + r.2.1 - p.1, r.2.2.1, l.rst + r.2.2.1⟩] := by rw [wy, if_pos h3]
            have he : (if p.2 + r.2.2.1 ≤ l.dr then 1 else 0) < (wy1 m l p k).length := by
              rw [e1]
              split <;> simp
            obtain ⟨q1, q2⟩ := Om hkl he
            have q3 : (wy1 m l p k)[if p.2 + r.2.2.1 ≤ l.dr then 1 else 0] = ⟨k, l.rst, r.1 + r.2.1 - p.1, r.2.2.1, l.rst + r.2.2.1⟩ := by
              rw [List.getElem_eq_iff]
              rw [e1]
              split <;> rfl
            have q4 : cnt m l p (k + 1) = cnt m l p k + (if p.2 + r.2.2.1 ≤ l.dr then 1 else 0) + 1 := by
              rw [Fw, e1]
              split <;> simp
            have := hy _ q1 τ hIτ
            rw [q2, q3] at this
            refine Gp.mono this ?_
            rintro v τ' ⟨t, rfl, ht, hq⟩
            refine ⟨t, rfl, ?_⟩
            rw [h40]
            intro _
            refine IZ (fun h => AA (.inr (hq h))) (fun h => k12 _ ?_)
            rw [q4]
            exact ht h
          · rw [h40]
            intro _
            refine Es (k12 _ ?_)
            have hn : ¬ (gbp m.pk p.1 = true ∧ 0 < p.2 ∧ r.2.2.1 ≤ l.dr) := fun x => by rw [ht.2 x] at et; cases et
            have q4 : cnt m l p (k + 1) = cnt m l p k + (if p.2 + r.2.2.1 ≤ l.dr then 1 else 0) := by
              rw [Fw, wy, if_neg hn]
              split <;> simp
            rw [q4]
            exact hIτ
        refine AM (Ez d0 rfl (AM (A7 d1 rfl (Pn d2.p hp1.1 hp1.2 ?_))))
        refine Kw (fun x1 => ?_) (fun x1 => k36 _ ?_)
        · refine AM (A7 d1 rfl (Bn (fun x2 => ?_) (fun x2 => k36 _ ?_)))
          · refine AM (A7 d0 rfl (k36 _ ?_))
            simp [x1, x2]
          · simp [x2]
        · simp [x1]
      refine Ai fun J69 h69 => ?_
      refine AM (A7 c1 rfl (Bx (by omega) (AM (A7 c0 rfl ?_))))
      refine Bn (fun x1 => ?_) (fun x1 => ?_)
      · refine AM (A7 c1 rfl (Bx (by omega) ?_))
        have he : 0 < (wy1 m l p k).length := by rw [wy, if_pos x1]; simp
        obtain ⟨q1, q2⟩ := Om hkl he
        have q3 : (wy1 m l p k)[0] = ⟨k, 0, r.1 + r.2.1 - p.1, p.2 + r.2.2.1, r.2.2.1⟩ := by
          rw [List.getElem_eq_iff, wy, if_pos x1]
          rfl
        have := hy _ q1 τ hIk
        rw [q2, q3] at this
        refine Gp.mono this ?_
        rintro v τ' ⟨t, rfl, ht, hq⟩
        refine ⟨t, rfl, ?_⟩
        rw [h69]
        intro _
        refine IZ (fun h => AA (.inr (hq h))) (fun h => k33 _ ?_)
        rw [if_pos x1]
        exact ht h
      · rw [h69]
        intro _
        refine Es (k33 _ ?_)
        rw [if_neg x1]
        exact hIk
    have kf : (p.1 = r.1 ∨ p.1 = r.2.1) → cl Try.prog (.func (.func DQ) #[] #[]) #[rdV r, l.v] τ fun v σ91 => ∃ t : Bool, (v = .bool t ∧ J87 (!t) σ91) := fun e =>
      Qj (fun hf => kyes e hf) (fun hf => kno fun x => hf x.2)
    refine AM (A7 c1 rfl (Cs (fun x1 => ?_) (fun x1 => ?_)))
    · refine AM (A7 c1 rfl (Cs (fun x2 => kno fun x => x.1.elim (fun e => x1 e.symm) (fun e => x2 e.symm)) (fun x2 => ?_)))
      exact AM (A7 c0 rfl (A7 c0 rfl (A7 c0 rfl (A7 c0 rfl (A7 c0 rfl (A7 c0 rfl (kf (.inr x2.symm))))))))
    · exact AM (A7 c0 rfl (A7 c0 rfl (A7 c0 rfl (A7 c0 rfl (A7 c0 rfl (A7 c0 rfl (kf (.inl x1.symm))))))))
  · have : k = m.rs.length := by omega
    subst this
    exact AA (.inl hIk)
end
end Go.Proofs.Ytkdjkkimngeloaa
