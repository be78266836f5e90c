/- Trimmed by wip/trim.py to what this claim rests on. -/
import Derived.Test.YtkdjkkimngeloaaXVb2
import Derived.Test.YtkdjkkimngeloaaXVb8
namespace Go.Proofs.Ytkdjkkimngeloaa
open Go.RowKit
theorem Nw.of {P : Program} {g : FuncId} {caps args : Array Value} {σ : Hp} {R : Value → Hp → Prop} (he : AA P g = true) (h : Af P g (Ll #[] args caps) σ R) : Nw P (.func (.func g) #[] caps) args σ R := fun σc hs => ⟨he, h σc hs⟩
abbrev atO (w : MW) (l : Lry) : Obj := .cells #[.slice w.pA w.pn w.pc, .slice w.rA w.rn w.rc, .int .i64 l.h, .int .i64 l.w, .int .i64 l.fr, .int .i64 l.rdy, .int .i64 l.dr, .int .i64 l.rst] 84 (0, 0)
abbrev atV (w : MW) (l : Lry) : Value := .agg #[.slice w.pA w.pn w.pc, .slice w.rA w.rn w.rc, .int .i64 l.h, .int .i64 l.w, .int .i64 l.fr, .int .i64 l.rdy, .int .i64 l.dr, .int .i64 l.rst]
abbrev plO (p : Plc) : Obj := .cells #[.int .i64 p.1, .int .i64 p.2] 132 (0, 0)
abbrev wyV (w : Wy) : Value := .agg #[.int .i64 w.rd, .int .i64 w.rst, .int .i64 w.tn, .int .i64 w.us, .int .i64 w.tk, .int .i64 1]
section
variable {σ : Hp}
theorem NM {w : MW} {l : Lry} {p : Plc} : Af Try.prog G9 #[atV w l, BK p] σ fun v σ' => ∃ b0 b1 σ1, v = .func (.func C5) #[] #[.pointer (some ⟨b0, 0, none⟩), .pointer (some ⟨b1, 0, none⟩)] ∧ Blk b0 (atO w l) σ σ1 ∧ Blk b1 (plO p) σ1 σ' := by
  refine FE _ _ _ _ _ _ _ _ _ _ _ _ _ _ _ _ ?_
  intro b0 n0 b1 n1
  exact AC ⟨b0, b1, _, rfl, ⟨n0, rfl⟩, n1, rfl⟩
def cnt (m : Mp) (l : Lry) (p : Plc) (i : Nat) : Nat := ((List.range i).flatMap (wy1 m l p)).length
theorem Gg {m : Mp} {l : Lry} {p : Plc} {i : Nat} : cnt m l p (i + 1) = cnt m l p i + (wy1 m l p i).length := by
  unfold cnt
  rw [List.range_succ, List.flatMap_append, List.length_append]
  simp
theorem Qp {m : Mp} {l : Lry} {p : Plc} {i : Nat} : ∀ k, i ≤ k → cnt m l p i ≤ cnt m l p k := by
  intro k
  induction k with
  | zero => intro h; obtain rfl : i = 0 := by omega
            exact Nat.le_refl _
  | succ k ih =>
    intro h
    by_cases e : i = k + 1
    · subst e; exact Nat.le_refl _
    · have := ih (by omega)
      rw [Gg]
      omega
theorem R2 {m : Mp} {l : Lry} {p : Plc} : cnt m l p m.rs.length = (wys m l p).length := rfl
theorem Qj {m : Mp} {l : Lry} {p : Plc} {i e : Nat} (hi : i < m.rs.length) (he : e < (wy1 m l p i).length) : ∃ h : cnt m l p i + e < (wys m l p).length, (wys m l p)[cnt m l p i + e] = (wy1 m l p i)[e] := by
  have h1 : cnt m l p i + e < (wys m l p).length := by
    have := Qp (m := m) (l := l) (p := p) (i := i + 1) m.rs.length (by omega)
    rw [Gg, R2] at this
    omega
  refine ⟨h1, ?_⟩
  have key : ∀ n, i < n → ((List.range n).flatMap (wy1 m l p))[cnt m l p i + e]? = some (wy1 m l p i)[e] := by
    intro n
    induction n with
    | zero => intro h; omega
    | succ n ih =>
      intro h
      rw [List.range_succ, List.flatMap_append]
      by_cases c : i = n
      · subst c
        rw [List.getElem?_append_right (by show cnt m l p i ≤ _; omega)]
        have : cnt m l p i + e - ((List.range i).flatMap (wy1 m l p)).length = e := by show cnt m l p i + e - cnt m l p i = e; omega
        rw [this]
        simp [he]
      · have h2 := ih (by omega)
        rw [List.getElem?_append_left]
        · exact h2
        · exact (List.getElem?_eq_some_iff.1 h2).1
  have h3 := key m.rs.length hi
  have h4 : (wys m l p)[cnt m l p i + e]? = some (wy1 m l p i)[e] := h3
  rw [List.getElem?_eq_getElem h1] at h4
  exact Option.some.inj h4
set_option maxRecDepth 20000 in
theorem KD {y : Value} {b0 b1 : Nat} {w : MW} {m : Mp} {l : Lry} {p : Plc} {I : Nat → Hp → Prop} {Q : Hp → Prop} (hm : BJ m) (hl : AZ m l) (hp1 : 0 ≤ p.1 ∧ p.1 < m.pk.length) (hp2 : 0 ≤ p.2 ∧ p.2 ≤ l.dr)
    (hI : ∀ i τ, I i τ → τ b0 = some (atO w l, true) ∧ τ b1 = some (plO p, true) ∧ MIn τ w m)
    (hy : ∀ i (_ : i < (wys m l p).length) τ, I i τ → Hj Try.prog y #[wyV (wys m l p)[i]] τ fun v τ' => ∃ t : Bool, v = .bool t ∧ (t = true → I (i + 1) τ') ∧ (t = false → Q τ'))
    (h0 : I 0 σ) : Af Try.prog C5 #[y, .pointer (some ⟨b0, 0, none⟩), .pointer (some ⟨b1, 0, none⟩)] σ fun _ σ' => I (wys m l p).length σ' ∨ Q σ' := by
  refine ED _ _ _ _ _ ?_
  unfold BY
  obtain ⟨a0, a1, a2⟩ := hI 0 σ h0
  have hrn := a2.rn
  have hdr := hl.d
  have hrs := hl.s
  have hk30 := hm.k
  have hn12 := hm.n
  refine AP (DK a0 rfl ?_)
  refine ⟨fun q i τ => ∃ k : Nat, q = m.rs.length - k ∧ i = k ∧ k ≤ m.rs.length ∧ I (cnt m l p k) τ, ⟨_, 0, rfl, rfl, by omega, h0⟩, ?_⟩
  rintro q i τ ⟨k, rfl, rfl, hk, hIk⟩ _
  refine Bd (fun hlt => ?_) (fun hge => ?_)
  · have hkl : k < m.rs.length := by omega
    obtain ⟨c0, c1, c2⟩ := hI _ τ hIk
    refine Ag fun J12 h12 => ?_
    have k12 : ∀ τ, I (cnt m l p (k + 1)) τ → J12 τ := by
      intro τ h
      rw [h12]
      intro _
      exact AT (by omega) (BP _ (by omega) ⟨k + 1, rfl, rfl, by omega, h⟩)
    refine Oc c2.r (by omega) (by simpa using hkl) fun r hr => ?_
    simp only [Int.toNat_natCast] at hr
    have er : AD m (k : Nat) = r := by rw [LS (by simpa using hkl)]; simpa using hr
    have hrd := hm.rd (x := ((k : Int), 0)) ⟨by show (0 : Int) ≤ (k : Int); omega, by show (k : Int) < _; omega⟩
    have hrd : rdW m.pk.length (AD m (k : Nat)) := hrd
    rw [er] at hrd
    obtain ⟨⟨g1, g2⟩, ⟨g3, g4⟩, g5, ⟨g6, g7⟩, _⟩ := hrd
    have wy : wy1 m l p k = if (p.1 = r.1 ∨ p.1 = r.2.1) ∧ Gp l r then
        (if p.2 + r.2.2.1 ≤ l.dr then [⟨k, 0, r.1 + r.2.1 - p.1, p.2 + r.2.2.1, r.2.2.1⟩] else []) ++
        (if gbp m.pk p.1 = true ∧ 0 < p.2 ∧ r.2.2.1 ≤ l.dr then [⟨k, l.rst, r.1 + r.2.1 - p.1, r.2.2.1, l.rst + r.2.2.1⟩] else []) else [] := by
      unfold wy1
      rw [er]
    refine Ag fun J25 h25 => Ag fun J87 h87 => ?_
    have kno : ¬ ((p.1 = r.1 ∨ p.1 = r.2.1) ∧ Gp l r) → J87 true τ := by
      intro hn
      rw [h87]
      intro _
      refine Hu (k12 _ ?_)
      rw [Gg, wy, if_neg hn]
      exact hIk
    have kyes : (p.1 = r.1 ∨ p.1 = r.2.1) → Gp l r → J87 false τ := by
      intro hend hfit
      rw [h87]
      intro _
      refine FC ?_
      rw [if_pos ⟨hend, hfit⟩] at wy
      rw [h25]
      intro _
      have hnt : 0 ≤ r.1 + r.2.1 - p.1 ∧ r.1 + r.2.1 - p.1 < m.pk.length := by rcases hend with e | e <;> omega
      refine AT (by omega) (AP (Bq c1 rfl (AT (by omega) ?_)))
      refine Ag fun J33 h33 => ?_
      -- behind a rest
      have k33 : ∀ τ, I (cnt m l p k + if p.2 + r.2.2.1 ≤ l.dr then 1 else 0) τ → J33 τ := by
        intro τ hIτ
        obtain ⟨d0, d1, d2⟩ := hI _ τ hIτ
        rw [h33]
        intro _
        refine Ag fun J36 h36 => ?_
        have k36 : ∀ t, (t = true ↔ gbp m.pk p.1 = true ∧ 0 < p.2 ∧ r.2.2.1 ≤ l.dr) → J36 t τ := by
          intro t ht
          rw [h36]
          intro _
          refine Ag fun J40 h40 => ?_
          refine IU (fun et => ?_) (fun et => ?_)
          · have h3 := ht.1 et
            refine AP (Bq d0 rfl (AP (Bq d0 rfl (AT (by omega) ?_))))
            have e1 : wy1 m l p k = (if p.2 + r.2.2.1 ≤ l.dr then [⟨k, 0, r.1 + r.2.1 - p.1, p.2 + r.2.2.1, r.2.2.1⟩] else []) ++ [⟨k, l.rst, r.1 + r.2.1 - p.1, r.2.2.1, l.rst + r.2.2.1⟩] := by rw [wy, if_pos h3]
            have he : (if p.2 + r.2.2.1 ≤ l.dr then 1 else 0) < (wy1 m l p k).length := by
              rw [e1]
              split <;> simp
            obtain ⟨q1, q2⟩ := Qj hkl he
            have q3 : (wy1 m l p k)[if p.2 + r.2.2.1 ≤ l.dr then 1 else 0] = ⟨k, l.rst, r.1 + r.2.1 - p.1, r.2.2.1, l.rst + r.2.2.1⟩ := by
              rw [List.getElem_eq_iff]
              rw [e1]
              split <;> rfl
            have q4 : cnt m l p (k + 1) = cnt m l p k + (if p.2 + r.2.2.1 ≤ l.dr then 1 else 0) + 1 := by
              rw [Gg, e1]
              split <;> simp
            have := hy _ q1 τ hIτ
            rw [q2, q3] at this
            refine Hj.mono this ?_
            rintro v τ' ⟨t, rfl, ht, hq⟩
            refine ⟨t, rfl, ?_⟩
            rw [h40]
            intro _
            refine Hf (fun h => AC (.inr (hq h))) (fun h => k12 _ ?_)
            rw [q4]
            exact ht h
          · rw [h40]
            intro _
            refine FC (k12 _ ?_)
            have hn : ¬ (gbp m.pk p.1 = true ∧ 0 < p.2 ∧ r.2.2.1 ≤ l.dr) := fun x => by rw [ht.2 x] at et; cases et
            have q4 : cnt m l p (k + 1) = cnt m l p k + (if p.2 + r.2.2.1 ≤ l.dr then 1 else 0) := by
              rw [Gg, wy, if_neg hn]
              split <;> simp
            rw [q4]
            exact hIτ
        refine AP (DK d0 rfl (AP (Bq d1 rfl (Oh d2.p hp1.1 hp1.2 ?_))))
        refine IU (fun x1 => ?_) (fun x1 => k36 _ ?_)
        · refine AP (Bq d1 rfl (Bd (fun x2 => ?_) (fun x2 => k36 _ ?_)))
          · refine AP (Bq d0 rfl (k36 _ ?_))
            simp [x1, x2]
          · simp [x2]
        · simp [x1]
      refine Ag fun J69 h69 => ?_
      refine AP (Bq c1 rfl (AT (by omega) (AP (Bq c0 rfl ?_))))
      refine Bd (fun x1 => ?_) (fun x1 => ?_)
      · refine AP (Bq c1 rfl (AT (by omega) ?_))
        have he : 0 < (wy1 m l p k).length := by rw [wy, if_pos x1]; simp
        obtain ⟨q1, q2⟩ := Qj hkl he
        have q3 : (wy1 m l p k)[0] = ⟨k, 0, r.1 + r.2.1 - p.1, p.2 + r.2.2.1, r.2.2.1⟩ := by
          rw [List.getElem_eq_iff, wy, if_pos x1]
          rfl
        have := hy _ q1 τ hIk
        rw [q2, q3] at this
        refine Hj.mono this ?_
        rintro v τ' ⟨t, rfl, ht, hq⟩
        refine ⟨t, rfl, ?_⟩
        rw [h69]
        intro _
        refine Hf (fun h => AC (.inr (hq h))) (fun h => k33 _ ?_)
        rw [if_pos x1]
        exact ht h
      · rw [h69]
        intro _
        refine FC (k33 _ ?_)
        rw [if_neg x1]
        exact hIk
    have kf : (p.1 = r.1 ∨ p.1 = r.2.1) → cl Try.prog (.func (.func Dk) #[] #[]) #[rdV r, l.v] τ fun v σ91 => ∃ t : Bool, (v = .bool t ∧ J87 (!t) σ91) := fun e =>
      P3 (fun hf => kyes e hf) (fun hf => kno fun x => hf x.2)
    refine AP (Bq c1 rfl (Bu (fun x1 => ?_) (fun x1 => ?_)))
    · refine AP (Bq c1 rfl (Bu (fun x2 => kno fun x => x.1.elim (fun e => x1 e.symm) (fun e => x2 e.symm)) (fun x2 => ?_)))
      exact AP (Bq c0 rfl (Bq c0 rfl (Bq c0 rfl (Bq c0 rfl (Bq c0 rfl (Bq c0 rfl (kf (.inr x2.symm))))))))
    · exact AP (Bq c0 rfl (Bq c0 rfl (Bq c0 rfl (Bq c0 rfl (Bq c0 rfl (Bq c0 rfl (kf (.inl x1.symm))))))))
  · have : k = m.rs.length := by omega
    subst this
    exact AC (.inl hIk)
end
end Go.Proofs.Ytkdjkkimngeloaa
namespace Go.Proofs.Ytkdjkkimngeloaa
open Go.RowKit
theorem Blk.upd {b : Nat} {o o' : Obj} {σ σ' : Hp} (h : Blk b o σ σ') : Blk b o' σ (σ'.ins b o') := by
  obtain ⟨h1, rfl⟩ := h
  refine ⟨h1, ?_⟩
  funext k
  by_cases hk : k = b
  · subst hk; rw [Hp.ins_same, Hp.ins_same]
  · rw [Hp.ins_ne _ hk, Hp.ins_ne _ hk, Hp.ins_ne _ hk]
theorem Ao.upd {R : Rel} (hR : Ao R) {σ1 σ2 : Hp} (h : R σ1 σ2) {b : Nat} {x : Obj × Bool} (hb : σ1 b = some x) (o : Obj) : R (σ1.ins b o) (σ2.ins b o) := by
  obtain ⟨m, hd, rfl, hk⟩ := hR _ _ h
  have hm : m b = none := by
    rcases hd b with h1 | h1
    · rw [h1] at hb; cases hb
    · exact h1
  have e : Hp.ins (Hp.un σ1 m) b o = Hp.un (σ1.ins b o) m := by
    funext i
    by_cases hi : i = b
    · subst hi
      rw [Hp.ins_same, Cw hm, Hp.ins_same]
    · rw [Hp.ins_ne _ hi]
      cases em : m i with
      | some y => rw [EQ em, EQ em]
      | none => rw [Cw em, Cw em, Hp.ins_ne _ hi]
  rw [e]
  refine hk _ fun i => ?_
  by_cases hi : i = b
  · subst hi; exact .inr hm
  · rcases hd i with h1 | h1
    · exact .inl (by rw [Hp.ins_ne _ hi]; exact h1)
    · exact .inr h1
abbrev Io (n : Int) : Value := .int .i64 n
structure RSt (b1 b4 b8 : Nat) (out : List (Plc × Cst)) (D : List (Plc × Int)) (xs : List Stp) (σ τ : Hp) : Prop where
  ex : ∃ s1 s2, Blk b1 (mpo AS out) σ s1 ∧ Blk b4 (mpo Io D) s1 s2 ∧ Stk b8 xs s2 τ
section
variable {b1 b4 b8 : Nat} {out : List (Plc × Cst)} {D : List (Plc × Int)} {xs : List Stp} {σ τ τ' : Hp} {U : Rel}
def RU (b1 b4 b8 : Nat) (out : List (Plc × Cst)) (D : List (Plc × Int)) (xs : List Stp) (U : Rel) : Rel := fun σ τ => ∃ s, RSt b1 b4 b8 out D xs σ s ∧ U s τ
theorem RU.sub (hU : Ao U) (h : RU b1 b4 b8 out D xs U σ τ) : Hp.Sub σ τ := by
  obtain ⟨s, ⟨s1, s2, h1, h2, h3⟩, h4⟩ := h
  exact h1.sub.trans (h2.sub.trans ((Ao.stk.sub h3).trans (hU.sub h4)))
theorem RU.g1 (hU : Ao U) (h : RU b1 b4 b8 out D xs U σ τ) : τ b1 = some (mpo AS out, true) := by
  obtain ⟨s, ⟨s1, s2, h1, h2, h3⟩, h4⟩ := h
  exact hU.sub h4 _ _ (Ao.stk.sub h3 _ _ (h2.sub _ _ h1.get))
theorem RU.g4 (hU : Ao U) (h : RU b1 b4 b8 out D xs U σ τ) : τ b4 = some (mpo Io D, true) := by
  obtain ⟨s, ⟨s1, s2, h1, h2, h3⟩, h4⟩ := h
  exact hU.sub h4 _ _ (Ao.stk.sub h3 _ _ h2.get)
theorem RU.set1 (hU : Ao U) (h : RU b1 b4 b8 out D xs U σ τ) (out' : List (Plc × Cst)) : RU b1 b4 b8 out' D xs U σ (τ.ins b1 (mpo AS out')) := by
  obtain ⟨s, ⟨s1, s2, h1, h2, h3⟩, h4⟩ := h
  have g2 := Ao.blk.upd h2 h1.get (mpo AS out')
  have g3 := Ao.stk.upd h3 (h2.sub _ _ h1.get) (mpo AS out')
  have g4 := hU.upd h4 (Ao.stk.sub h3 _ _ (h2.sub _ _ h1.get)) (mpo AS out')
  exact ⟨_, ⟨_, _, h1.upd, g2, g3⟩, g4⟩
theorem RU.set4 (hU : Ao U) (h : RU b1 b4 b8 out D xs U σ τ) (D' : List (Plc × Int)) : RU b1 b4 b8 out D' xs U σ (τ.ins b4 (mpo Io D')) := by
  obtain ⟨s, ⟨s1, s2, h1, h2, h3⟩, h4⟩ := h
  have g3 := Ao.stk.upd h3 h2.get (mpo Io D')
  have g4 := hU.upd h4 (Ao.stk.sub h3 _ _ h2.get) (mpo Io D')
  exact ⟨_, ⟨_, _, h1, h2.upd, g3⟩, g4⟩
theorem RU.call {P : Program} {f : FuncId} {args : Array Value} {Q : Value → List Stp → Prop} (hU : Ao U) (h : RU b1 b4 b8 out D xs U σ τ) (hc : ∀ s2 s, Stk b8 xs s2 s → Af P f args s fun v s' => ∃ ys, Q v ys ∧ Stk b8 ys s2 s') : Af P f args τ fun v τ' => ∃ ys, Q v ys ∧ RU b1 b4 b8 out D ys U σ τ' := by
  obtain ⟨s, ⟨s1, s2, h1, h2, h3⟩, h4⟩ := h
  refine Af.mono (Af.over hU (hc _ _ h3) h4) fun v τ' h5 => ?_
  obtain ⟨s', ⟨ys, q, h6⟩, h7⟩ := h5
  exact ⟨ys, q, s', ⟨s1, s2, h1, h2, h6⟩, h7⟩
theorem RU.top {V : Rel} (h : RU b1 b4 b8 out D xs U σ τ) (hv : V τ τ') : RU b1 b4 b8 out D xs (U.seq V) σ τ' := by
  obtain ⟨s, h1, h2⟩ := h
  exact ⟨s, h1, τ, h2, hv⟩
theorem RU.untop {V : Rel} (h : RU b1 b4 b8 out D xs (U.seq V) σ τ) : ∃ τ0, RU b1 b4 b8 out D xs U σ τ0 ∧ V τ0 τ := by
  obtain ⟨s, h1, t, h2, h3⟩ := h
  exact ⟨t, ⟨s, h1, h2⟩, h3⟩
set_option maxRecDepth 100000 in
theorem RU.len {K : Value → Hp → Prop} (hU : Ao U) (h : RU b1 b4 b8 out D xs U σ τ) (hk : K (.int .i64 xs.length) τ) : ivk Try.prog (hv b8) "Len" #[] τ K := by
  obtain ⟨s, ⟨s1, s2, h1, h2, h3⟩, h4⟩ := h
  obtain ⟨A, n, c, s3, ho, hb⟩ := h3
  have hn : n = xs.length := ho.len
  refine PE (OZ (AV (hU.sub h4 _ _ hb.get) rfl)) Cp ?_
  refine Af.mono (Jn (A := A) (n := n) (c := c)) fun v σ2 h => ?_
  obtain ⟨rfl, rfl⟩ := h
  rw [hn]
  exact hk
end
def Oq : Option TypeDesc → Bool
  | some (.int .i64) => true
  | _ => false
theorem Nb {d : Option TypeDesc} (h : Oq d = true) : d = some (.int .i64) := by
  unfold Oq at h
  split at h
  · rfl
  · cases h
def Sq (P : Program) (t kt et : TypeId) : Bool := match P.underlying t, P.underlying kt with
  | some (.map a b), some (.struct ⟨[f1, f2]⟩) => Nat.beq a kt && Nat.beq b et && !P.stoodInHeld kt && !(f1.name == "_") && !(f2.name == "_") && Nat.beq f1.offset 0 && Nat.beq f2.offset 1 && Oq (P.underlying f1.type) && Oq (P.underlying f2.type)
  | _, _ => false
theorem OK {P : Program} {t kt et : TypeId} (h : Sq P t kt et = true) : ∃ f1 f2, Kj P t kt et f1 f2 := by
  unfold Sq at h
  split at h
  · rename_i a b f1 f2 h1 h2
    simp only [Bool.and_eq_true, Bool.not_eq_true'] at h
    obtain ⟨⟨⟨⟨⟨⟨⟨⟨g1, g2⟩, g3⟩, g4⟩, g5⟩, g6⟩, g7⟩, g8⟩, g9⟩ := h
    have g1 := Nat.eq_of_beq_eq_true g1
    have g2 := Nat.eq_of_beq_eq_true g2
    subst g1 g2
    exact ⟨f1, f2, h1, h2, g3, by simpa using g4, by simpa using g5, Nat.eq_of_beq_eq_true g6, Nat.eq_of_beq_eq_true g7, Nb g8, Nb g9⟩
  · cases h
theorem Qx : ∃ f1 f2, Kj Try.prog 128 132 98 f1 f2 := OK (by kernel_rfl)
theorem Tm : ∃ f1 f2, Kj Try.prog 153 132 3 f1 f2 := OK (by kernel_rfl)
theorem Th : ∃ i, Try.prog.info? 98 = some i ∧ i.zero = some (AS (0, 0)) := by
  have h : (Try.prog.info? 98).map (·.zero) = some (some (AS (0, 0))) := by kernel_rfl
  obtain ⟨i, h1, h2⟩ := Option.map_eq_some_iff.1 h
  exact ⟨i, h1, h2⟩
theorem Ty : ∃ i, Try.prog.info? 3 = some i ∧ i.zero = some (Io 0) := by
  have h : (Try.prog.info? 3).map (·.zero) = some (some (Io 0)) := by kernel_rfl
  obtain ⟨i, h1, h2⟩ := Option.map_eq_some_iff.1 h
  exact ⟨i, h1, h2⟩
section
variable {σ : Hp}
set_option maxRecDepth 100000 in
theorem upC {b : Nat} {p : Plc} {c : Cst} {E : List (Plc × Cst)} {K : Hp → Prop} (hb : σ b = some (mpo AS E, true)) (h : K (σ.ins b (mpo AS (upA E p c)))) : upm Try.prog 128 (.map (some b)) (BK p) (AS c) σ K := by
  obtain ⟨f1, f2, hk⟩ := Qx
  exact QN hk hb h
set_option maxRecDepth 100000 in
theorem upN {b : Nat} {p : Plc} {c : Int} {E : List (Plc × Int)} {K : Hp → Prop} (hb : σ b = some (mpo Io E, true)) (h : K (σ.ins b (mpo Io (upA E p c)))) : upm Try.prog 153 (.map (some b)) (BK p) (Io c) σ K := by
  obtain ⟨f1, f2, hk⟩ := Tm
  exact QN hk hb h
set_option maxRecDepth 100000 in
theorem lkC {b : Nat} {p : Plc} {E : List (Plc × Cst)} {w : Bool} {K : Value → Bool → Prop} (hb : σ b = some (mpo AS E, w)) (h : K (AS ((lkA E p).getD (0, 0))) (lkA E p).isSome) : lko Try.prog 128 (.map (some b)) (BK p) σ K := by
  obtain ⟨f1, f2, hk⟩ := Qx
  obtain ⟨i, h1, h2⟩ := Th
  exact SH hk h1 h2 hb h
set_option maxRecDepth 100000 in
theorem QD {b : Nat} {p : Plc} {E : List (Plc × Cst)} {w : Bool} {K : Value → Prop} (hb : σ b = some (mpo AS E, w)) (h : K (AS ((lkA E p).getD (0, 0)))) : lkp Try.prog 128 (.map (some b)) (BK p) σ K := by
  obtain ⟨f1, f2, hk⟩ := Qx
  obtain ⟨i, h1, h2⟩ := Th
  exact Rl hk h1 h2 hb h
set_option maxRecDepth 100000 in
theorem lkN {b : Nat} {p : Plc} {E : List (Plc × Int)} {w : Bool} {K : Value → Prop} (hb : σ b = some (mpo Io E, w)) (h : K (Io ((lkA E p).getD 0))) : lkp Try.prog 153 (.map (some b)) (BK p) σ K := by
  obtain ⟨f1, f2, hk⟩ := Tm
  obtain ⟨i, h1, h2⟩ := Ty
  exact Rl hk h1 h2 hb h
end
end Go.Proofs.Ytkdjkkimngeloaa
namespace Go.Proofs.Ytkdjkkimngeloaa
open Go.RowKit
def qof (xs : List Stp) : List (Plc × Cst) := xs.map fun x => (Stp.p x, Stp.c x)
theorem Ii {xs : List Stp} {e : Plc × Cst} : e ∈ qof xs ↔ ∃ x ∈ xs, (Stp.p x, Stp.c x) = e := List.mem_map
theorem Km {xs ys : List Stp} (h : xs.Perm ys) (e : Plc × Cst) : e ∈ qof xs ↔ e ∈ qof ys := (h.map _).mem_iff
theorem HL {m : Mp} {l : Lry} (hm : BJ m) (hl : AZ m l) : (KL m l).length ≤ 6012 := by
  unfold KL
  have key : ∀ n : Nat, ((List.range n).flatMap fun t : Nat => (List.range (l.dr.toNat + 1)).map fun u : Nat => (((t : Nat) : Int), ((u : Nat) : Int))).length = n * (l.dr.toNat + 1) := by
    intro n
    induction n with
    | zero => simp
    | succ n ih =>
      rw [show List.range (n + 1) = List.range n ++ [n] from List.range_succ, List.flatMap_append, List.length_append, ih, Nat.add_mul]
      simp
  rw [key]
  have h1 := hm.n
  have h2 := hl.d
  have h3 : l.dr.toNat + 1 ≤ 501 := by omega
  exact Nat.le_trans (Nat.mul_le_mul h1.2 h3) (by decide)
structure SI (m : Mp) (l : Lry) (out : List (Plc × Cst)) (D : List (Plc × Int)) (xs : List Stp) : Prop where
  dj : DJ m l out (D.map Prod.fst) (qof xs)
  ho : HO xs xs.length
  one : ∀ e ∈ D, e.2 = 1
  ub : ∀ x ∈ xs, (Stp.c x).1 ≤ 1000 * D.length
  ob : ∀ p c, lkA out p = some c → c.1 ≤ 1000 * D.length
  un : und m l (D.map Prod.fst) + D.length ≤ (KL m l).length
  ql : xs.length ≤ 60 * D.length + 1
structure SJ (m : Mp) (l : Lry) (p : Plc) (c : Cst) (n0 k : Nat) (out : List (Plc × Cst)) (D : List (Plc × Int)) (xs : List Stp) : Prop where
  dj : DJI m l p c k out (D.map Prod.fst) (qof xs)
  ho : HO xs xs.length
  one : ∀ e ∈ D, e.2 = 1
  ub : ∀ x ∈ xs, (Stp.c x).1 ≤ 1000 * D.length
  ob : ∀ p c, lkA out p = some c → c.1 ≤ 1000 * D.length
  cb : c.1 + 1000 ≤ 1000 * D.length
  un : und m l (D.map Prod.fst) + D.length ≤ (KL m l).length
  ql : xs.length + 60 ≤ 60 * D.length + 1 + k
  n0 : xs.length ≤ n0 + k
theorem Kc {m : Mp} {l : Lry} (hm : BJ m) (hl : AZ m l) {p : Plc} {c : Cst} {n : Nat} (h : Rc m l p c) (h1 : c.1 ≤ 1000 * n) (h2 : n ≤ 6012) : cOK c := by
  obtain ⟨_, _, a, b⟩ := h.ok hm hl
  exact ⟨by omega, by omega⟩
theorem SI.dl {m : Mp} {l : Lry} {out : List (Plc × Cst)} {D : List (Plc × Int)} {xs : List Stp} (h : SI m l out D xs) (hm : BJ m) (hl : AZ m l) : D.length ≤ 6012 := by
  have := h.un
  have := HL hm hl
  omega
theorem SI.cs {m : Mp} {l : Lry} {out : List (Plc × Cst)} {D : List (Plc × Int)} {xs : List Stp} (h : SI m l out D xs) (hm : BJ m) (hl : AZ m l) : LH xs := fun x hx =>
  Kc hm hl (h.dj.qs _ (Ii.2 ⟨x, hx, rfl⟩)).1 (h.ub x hx) (h.dl hm hl)
theorem SI.init {m : Mp} {l : Lry} : SI m l [((l.fr, 0), (0, 0))] [] [(l.fr, 0, 0, 0)] := by
  refine ⟨DJ.init, fun i h0 h1 => ?_, fun e he => (by cases he), fun x hx => ?_, fun p c h => ?_, ?_, by simp⟩
  · have h1 : i < 1 := h1
    omega
  · rw [List.mem_singleton] at hx
    subst hx
    exact Int.le_refl _
  · unfold lkA at h
    split at h
    · cases h; exact Int.le_refl _
    · cases h
  · show (List.filter _ _).length + 0 ≤ _
    exact List.length_filter_le ..
theorem SI.skip {m : Mp} {l : Lry} {out : List (Plc × Cst)} {D : List (Plc × Int)} {xs ys : List Stp} {x : Stp} (h : SI m l out D xs) (hp : (x :: ys).Perm xs) (ho : HO ys ys.length) (hx : Stp.p x ∈ D.map Prod.fst) : SI m l out D ys := by
  have hlen := hp.length_eq
  simp only [List.length_cons] at hlen
  have := h.ql
  exact ⟨(h.dj.perm (q' := qof (x :: ys)) (Km hp)).skip hx, ho, h.one, fun y hy => h.ub y (hp.mem_iff.1 (List.mem_cons_of_mem _ hy)), h.ob, h.un, by omega⟩
theorem SI.pop {m : Mp} {l : Lry} {out : List (Plc × Cst)} {D : List (Plc × Int)} {xs ys : List Stp} (hm : BJ m) (hl : AZ m l) (h : SI m l out D xs) (h0 : 0 < xs.length) (hp : (gs xs 0 :: ys).Perm xs) (ho : HO ys ys.length) (hx : Stp.p (gs xs 0) ∉ D.map Prod.fst) :
    SJ m l (Stp.p (gs xs 0)) (Stp.c (gs xs 0)) ys.length 0 out (upA D (Stp.p (gs xs 0)) 1) ys ∧ und m l ((upA D (Stp.p (gs xs 0)) 1).map Prod.fst) < und m l (D.map Prod.fst) := by
  have hlen := hp.length_eq
  simp only [List.length_cons] at hlen
  have hql := h.ql
  have hnone : lkA D (Stp.p (gs xs 0)) = none := JY.2 hx
  have eD := Ko (v := (1 : Int)) hnone
  have hmem : ∀ p, p ∈ (upA D (Stp.p (gs xs 0)) 1).map Prod.fst ↔ p ∈ Stp.p (gs xs 0) :: D.map Prod.fst := fun p => by rw [eD]; simp [or_comm]
  have hund : ∀ dn dn' : List Plc, (∀ p, p ∈ dn ↔ p ∈ dn') → und m l dn = und m l dn' := fun dn dn' hh => by
    unfold und
    have : (fun p : Plc => decide (p ∉ dn)) = fun p => decide (p ∉ dn') := funext fun p => by simp [hh p]
    rw [this]
  have eL : (upA D (Stp.p (gs xs 0)) 1).length = D.length + 1 := by rw [eD]; simp
  have hin : gs xs 0 ∈ xs := by rw [DD h0]; exact List.getElem_mem h0
  obtain ⟨hrc, _⟩ := h.dj.qs _ (Ii.2 ⟨_, hin, rfl⟩)
  obtain ⟨hb1, hb2, _⟩ := hrc.ok hm hl
  have hlt : und m l (Stp.p (gs xs 0) :: D.map Prod.fst) < und m l (D.map Prod.fst) := SF (Mw hb1 hb2) hx
  have hmin : ∀ e ∈ qof ys, ¬ clt e.2 (Stp.c (gs xs 0)) := fun e he => by
    obtain ⟨y, hy, rfl⟩ := Ii.1 he
    have hyx : y ∈ xs := hp.mem_iff.1 (List.mem_cons_of_mem _ hy)
    obtain ⟨i, hi, rfl⟩ := List.mem_iff_getElem.1 hyx
    have := h.ho.min i hi
    rw [DD hi] at this
    exact this
  obtain ⟨hj, _⟩ := (h.dj.perm (q' := qof (gs xs 0 :: ys)) (Km hp)).pop (x := (Stp.p (gs xs 0), Stp.c (gs xs 0))) (q := qof ys) hmin hx
  · refine ⟨⟨?_, ho, fun e he => ?_, fun y hy => ?_, fun p c hc => ?_, ?_, ?_, by omega, by omega⟩, ?_⟩
    · exact ⟨hj.nd, hj.b, hj.so, hj.qs, fun p c a b => hj.un p c a (fun x => b ((hmem p).2 x)), fun p hp => hj.cl p ((hmem p).1 hp), ⟨hj.me.1, (hmem _).2 hj.me.2.1, hj.me.2.2⟩, fun p hp => hj.md p ((hmem p).1 hp), hj.mq⟩
    · rw [eD] at he
      rcases List.mem_append.1 he with he | he
      · exact h.one e he
      · rw [List.mem_singleton] at he
        subst he
        rfl
    · have := h.ub y (hp.mem_iff.1 (List.mem_cons_of_mem _ hy))
      rw [eL]
      omega
    · have := h.ob p c hc
      rw [eL]
      omega
    · have := h.ub _ hin
      rw [eL]
      omega
    · rw [hund _ _ hmem, eL]
      have := h.un
      omega
    · rw [hund _ _ hmem]
      exact hlt
theorem SJ.done {m : Mp} {l : Lry} {p : Plc} {c : Cst} {n0 : Nat} {out : List (Plc × Cst)} {D : List (Plc × Int)} {xs : List Stp} (hm : BJ m) (h : SJ m l p c n0 (wys m l p).length out D xs) : SI m l out D xs := by
  have := h.ql
  have := Ln (l := l) (p := p) hm
  exact ⟨h.dj.done, h.ho, h.one, h.ub, h.ob, h.un, by omega⟩
theorem SJ.pass {m : Mp} {l : Lry} {p : Plc} {c : Cst} {n0 k : Nat} {out : List (Plc × Cst)} {D : List (Plc × Int)} {xs : List Stp} (h : SJ m l p c n0 k out D xs) (hk : k < (wys m l p).length) (hge : ∃ c', lkA out (wys m l p)[k].to = some c' ∧ ¬ clt (cad c (wys m l p)[k]) c') : SJ m l p c n0 (k + 1) out D xs := by
  have h1 := h.ql
  have h2 := h.n0
  exact ⟨h.dj.pass hk hge, h.ho, h.one, h.ub, h.ob, h.cb, h.un, by omega, by omega⟩
theorem SJ.push {m : Mp} {l : Lry} {p : Plc} {c : Cst} {n0 k : Nat} {out : List (Plc × Cst)} {D : List (Plc × Int)} {xs ys : List Stp} (hm : BJ m) (hl : AZ m l) (h : SJ m l p c n0 k out D xs) (hk : k < (wys m l p).length) (hlt : ∀ c', lkA out (wys m l p)[k].to = some c' → clt (cad c (wys m l p)[k]) c')
    (hp : ys.Perm (stp (wys m l p)[k].to (cad c (wys m l p)[k]) :: xs)) (ho : HO ys ys.length) : SJ m l p c n0 (k + 1) (upA out (wys m l p)[k].to (cad c (wys m l p)[k])) D ys := by
  have h1 := h.ql
  have h2 := h.n0
  have h3 := h.cb
  have hlen := hp.length_eq
  simp only [List.length_cons] at hlen
  have ht := (FB hm hl (List.getElem_mem hk)).2.1
  refine ⟨(h.dj.push hm hl hk hlt).perm (Km hp), ho, h.one, fun y hy => ?_, fun p' c' hc => ?_, h.cb, h.un, by omega, by omega⟩
  · rcases List.mem_cons.1 (hp.mem_iff.1 hy) with rfl | hy
    · show c.1 + (wys m l p)[k].tk ≤ _
      omega
    · exact h.ub y hy
  · rw [Br] at hc
    split at hc
    · cases hc
      show c.1 + (wys m l p)[k].tk ≤ _
      omega
    · exact h.ob p' c' hc
end Go.Proofs.Ytkdjkkimngeloaa
namespace Go.Proofs.Ytkdjkkimngeloaa
open Go.RowKit
def cB (out : List (Plc × Cst)) : Prop := ∀ p c, lkA out p = some c → cOK c
section
variable {σ : Hp}
abbrev ovO (b1 : Nat) : Obj := .cells #[.map (some b1)] 128 (0, 0)
abbrev qvO (b8 : Nat) : Obj := .cells #[hv b8] 160 (0, 0)
abbrev stO (x : Stp) : Obj := .cells #[.int .i64 x.1, .int .i64 x.2.1, .int .i64 x.2.2.1, .int .i64 x.2.2.2] 156 (0, 0)
def U0 (b1 b8 b21 b23 : Nat) : Rel := (Blk b21 (ovO b1)).seq (Blk b23 (qvO b8))
theorem Ao.u0 {b1 b8 b21 b23 : Nat} : Ao (U0 b1 b8 b21 b23) := Ao.blk.seq Ao.blk
theorem U0.g21 {b1 b8 b21 b23 : Nat} {σ' : Hp} (h : U0 b1 b8 b21 b23 σ σ') : σ' b21 = some (ovO b1, true) := by
  obtain ⟨s, h1, h2⟩ := h
  exact h2.sub _ _ h1.get
theorem U0.g23 {b1 b8 b21 b23 : Nat} {σ' : Hp} (h : U0 b1 b8 b21 b23 σ σ') : σ' b23 = some (qvO b8, true) := by
  obtain ⟨s, h1, h2⟩ := h
  exact h2.get
def U1 (b1 b8 b21 b23 c0 c1 b52 : Nat) (w : MW) (l : Lry) (x : Stp) : Rel := (((U0 b1 b8 b21 b23).seq (Blk c0 (atO w l))).seq (Blk c1 (plO (Stp.p x)))).seq (Blk b52 (stO x))
theorem Ao.u1 {b1 b8 b21 b23 c0 c1 b52 : Nat} {w : MW} {l : Lry} {x : Stp} : Ao (U1 b1 b8 b21 b23 c0 c1 b52 w l x) := ((Ao.u0.seq Ao.blk).seq Ao.blk).seq Ao.blk
theorem U1.get {b1 b8 b21 b23 c0 c1 b52 : Nat} {w : MW} {l : Lry} {x : Stp} {σ' : Hp} (h : U1 b1 b8 b21 b23 c0 c1 b52 w l x σ σ') : σ' b21 = some (ovO b1, true) ∧ σ' b23 = some (qvO b8, true) ∧ σ' c0 = some (atO w l, true) ∧ σ' c1 = some (plO (Stp.p x), true) ∧ σ' b52 = some (stO x, true) := by
  obtain ⟨s3, ⟨s2, ⟨s1, h1, h2⟩, h3⟩, h4⟩ := h
  have e := h3.sub.trans h4.sub
  have e' := h2.sub.trans e
  exact ⟨e' _ _ h1.g21, e' _ _ h1.g23, e _ _ h2.get, h4.sub _ _ h3.get, h4.get⟩
set_option maxRecDepth 100000 in
theorem OY {w : MW} {m : Mp} {l : Lry} (h : MIn σ w m) (hm : BJ m) (hl : AZ m l) : Af Try.prog GD #[atV w l] σ fun v σ' => ∃ b out, v = .map (some b) ∧ Blk b (mpo AS out) σ σ' ∧ Lst m l out ∧ cB out := by
  refine EZ _ _ _ _ _ _ _ _ _ _ _ _ _ _ ?_
  unfold Ca
  intro b1 n1
  have e1 : Blk b1 (mpo AS []) σ (σ.ins b1 (.map #[] 0)) := ⟨n1, rfl⟩
  refine upC (E := []) (p := (l.fr, 0)) (c := (0, 0)) e1.get ?_
  have e2 : Blk b1 (mpo AS [((l.fr, 0), (0, 0))]) σ ((σ.ins b1 (.map #[] 0)).ins b1 (mpo AS (upA [] (l.fr, 0) (0, 0)))) := e1.upd
  generalize (σ.ins b1 (.map #[] 0)).ins b1 (mpo AS (upA [] (l.fr, 0) (0, 0))) = σ3 at e2 ⊢
  clear e1 n1
  intro b4 n4
  have e3 : Blk b4 (mpo Io []) σ3 (σ3.ins b4 (.map #[] 0)) := ⟨n4, rfl⟩
  generalize σ3.ins b4 (.map #[] 0) = σ5 at e3 ⊢
  intro A6 l6 c6 σ7 ho
  intro b8 n8
  have e4 : Stk b8 [(l.fr, 0, 0, 0)] σ5 (σ7.ins b8 (.cells #[.slice A6 l6 c6] 158 (0, 0))) := ⟨A6, l6, c6, σ7, ho, n8, rfl⟩
  generalize σ7.ins b8 (.cells #[.slice A6 l6 c6] 158 (0, 0)) = σ9 at e4 ⊢
  refine Ag fun J12 h12 => ?_
  refine ⟨fun q p25 p26 τ => ∃ (b21 b23 : Nat) (out : List (Plc × Cst)) (D : List (Plc × Int)) (xs : List Stp), p25 = some ⟨b21, 0, none⟩ ∧ p26 = some ⟨b23, 0, none⟩ ∧ q = und m l (D.map Prod.fst) * 61 + xs.length ∧ SI m l out D xs ∧ RU b1 b4 b8 out D xs (U0 b1 b8 b21 b23) σ τ, ⟨und m l (([] : List (Plc × Int)).map Prod.fst) * 61 + [((l.fr, 0, 0, 0) : Stp)].length, fun b21 n21 b23 n23 => ⟨b21, b23, _, [], [(l.fr, 0, 0, 0)], rfl, rfl, rfl, SI.init, σ9, ⟨_, _, e2, e3, e4⟩, _, ⟨n21, rfl⟩, n23, rfl⟩⟩, ?_⟩
  rintro q p25 p26 τ ⟨b21, b23, out, D, xs, rfl, rfl, rfl, hi, hr⟩ _
  have hU := Ao.u0 (b1 := b1) (b8 := b8) (b21 := b21) (b23 := b23)
  have g21 : τ b21 = some (ovO b1, true) := by obtain ⟨s, _, h2⟩ := hr; exact h2.g21
  have g23 : τ b23 = some (qvO b8, true) := by obtain ⟨s, _, h2⟩ := hr; exact h2.g23
  have hdl := hi.dl hm hl
  have hql := hi.ql
  refine AP ⟨_, AV g23 rfl, hr.len hU ⟨_, rfl, Bd (fun h0 => ?_) (fun h0 => ?_)⟩⟩
  · have h0 : 0 < xs.length := by omega
    refine AP ⟨_, AV g23 rfl, ?_⟩
    refine Bg D2 (hr.call hU (Q := fun v ys => v = .iface 156 (stV (gs xs 0)) ∧ (gs xs 0 :: ys).Perm xs ∧ HO ys ys.length) fun s2 s hs => Af.mono (Te hs (hi.cs hm hl) hi.ho h0 (by omega)) fun v s' ⟨a, ys, b, c, d⟩ => ⟨ys, ⟨a, b, c⟩, d⟩) ?_
    clear hr g21 g23 τ
    rintro v τ ⟨ys, ⟨rfl, hp, hy⟩, hr⟩
    refine ⟨_, rfl, M4 ⟨_, _, _, _, rfl, ?_⟩⟩
    have hdist : (lkA D (Stp.p (gs xs 0))).getD 0 = 1 ↔ Stp.p (gs xs 0) ∈ D.map Prod.fst := by
      cases hk : lkA D (Stp.p (gs xs 0)) with
      | none => simp only [Option.getD_none]; exact ⟨fun x => by omega, fun x => absurd x (JY.1 hk)⟩
      | some v =>
        have h1 := HS hk
        have h2 := hi.one _ h1
        simp only [Option.getD_some]
        exact ⟨fun _ => List.mem_map_of_mem (f := Prod.fst) h1, fun _ => h2⟩
    refine lkN (p := Stp.p (gs xs 0)) (hr.g4 hU) ⟨_, rfl, Bd (fun h1 => ?_) (fun h1 => ?_)⟩
    · have hlen := hp.length_eq
      simp only [List.length_cons] at hlen
      exact BP _ (by omega) ⟨b21, b23, out, D, ys, rfl, rfl, rfl, hi.skip hp hy (hdist.1 h1), hr⟩
    · obtain ⟨hj, hlt⟩ := hi.pop hm hl h0 hp hy (fun x => h1 (hdist.2 x))
      have hrc := (hi.dj.qs _ (Ii.2 ⟨_, (by rw [DD h0]; exact List.getElem_mem h0 : gs xs 0 ∈ xs), rfl⟩)).1
      obtain ⟨hpl1, hpl2, _⟩ := hrc.ok hm hl
      have hlen := hp.length_eq
      simp only [List.length_cons] at hlen
      generalize gs xs 0 = x at hj hlt hpl1 hpl2 hrc ⊢
      have hrc : Rc m l (Stp.p x) (Stp.c x) := hrc
      refine upN (p := Stp.p x) (c := 1) (hr.g4 hU) ?_
      have hr := hr.set4 hU (upA D (Stp.p x) 1)
      generalize τ.ins b4 (mpo Io (upA D (Stp.p x) 1)) = τ at hr ⊢
      refine Bg BC (NM (w := w) (l := l) (p := Stp.p x)) ?_
      rintro v τ2 ⟨c0, c1, τ1, rfl, hb0, hb1⟩
      refine ⟨_, rfl, ?_⟩
      intro b52 n52
      have hr := ((hr.top hb0).top hb1).top (V := Blk b52 (stO x)) (τ' := τ2.ins b52 (stO x)) ⟨n52, rfl⟩
      have hr : RU b1 b4 b8 out (upA D (Stp.p x) 1) ys (U1 b1 b8 b21 b23 c0 c1 b52 w l x) σ (τ2.ins b52 (stO x)) := hr
      have hV := Ao.u1 (b1 := b1) (b8 := b8) (b21 := b21) (b23 := b23) (c0 := c0) (c1 := c1) (b52 := b52) (w := w) (l := l) (x := x)
      intro lb Rec hlb hcall
      have hr := hr.top (V := Blk lb (Rec .ready none)) ⟨hlb, rfl⟩
      have hVl : ∀ st, Ao ((U1 b1 b8 b21 b23 c0 c1 b52 w l x).seq (Blk lb (Rec st none))) := fun st => hV.seq Ao.blk
      have getU : ∀ {st out D ys τ}, RU b1 b4 b8 out D ys ((U1 b1 b8 b21 b23 c0 c1 b52 w l x).seq (Blk lb (Rec st none))) σ τ → τ b21 = some (ovO b1, true) ∧ τ b23 = some (qvO b8, true) ∧ τ c0 = some (atO w l, true) ∧ τ c1 = some (plO (Stp.p x), true) ∧ τ b52 = some (stO x, true) ∧ τ lb = some (Rec st none, true) := by
        rintro st out D ys τ ⟨s, _, t, h1, h2⟩
        obtain ⟨a, b, c, d, e⟩ := h1.get
        exact ⟨h2.sub _ _ a, h2.sub _ _ b, h2.sub _ _ c, h2.sub _ _ d, h2.sub _ _ e, h2.get⟩
      have turn : ∀ {st st' out D ys τ}, RU b1 b4 b8 out D ys ((U1 b1 b8 b21 b23 c0 c1 b52 w l x).seq (Blk lb (Rec st none))) σ τ → RU b1 b4 b8 out D ys ((U1 b1 b8 b21 b23 c0 c1 b52 w l x).seq (Blk lb (Rec st' none))) σ (τ.ins lb (Rec st' none)) := by
        rintro st st' out D ys τ hh
        obtain ⟨t, h1, h2⟩ := hh.untop
        exact h1.top h2.upd
      refine Nw.of Bn (Af.mono (KD (y := .func (.yield lb) #[] #[]) (b0 := c0) (b1 := c1) (w := w) (m := m) (l := l) (p := Stp.p x)
        (I := fun k τ => ∃ out zs, SJ m l (Stp.p x) (Stp.c x) ys.length k out (upA D (Stp.p x) 1) zs ∧ RU b1 b4 b8 out (upA D (Stp.p x) 1) zs ((U1 b1 b8 b21 b23 c0 c1 b52 w l x).seq (Blk lb (Rec .ready none))) σ τ)
        (Q := fun _ => False) hm hl hpl1 hpl2 (fun k τ ⟨out, zs, _, hr⟩ => ?_) (fun k hk τ ⟨out, zs, hj, hr⟩ => ?_) ⟨out, ys, hj, hr⟩) ?_)
      · obtain ⟨_, _, a, b, _, _⟩ := getU hr
        exact ⟨a, b, h.up (hr.sub (hVl _))⟩
      · obtain ⟨_, _, _, _, _, glb⟩ := getU hr
        refine hcall _ _ _ glb ⟨_, _, _, _, _, _, rfl, fun _ => ⟨glb, ?_⟩⟩
        have hr := turn (st' := .busy) hr
        generalize τ.ins lb (Rec .busy none) = τ at hr ⊢
        obtain ⟨g21, g23, _, _, g52, glb⟩ := getU hr
        have hP := hVl .busy
        have hcx := Kc hm hl hrc (by have := hj.cb; show (Stp.c x).1 ≤ 1000 * ((upA D (Stp.p x) 1).length : Int); omega) (n := (upA D (Stp.p x) 1).length) (by
          have := hj.un
          have := HL hm hl
          omega)
        have hdl2 : (upA D (Stp.p x) 1).length ≤ 6012 := by
          have := hj.un
          have := HL hm hl
          omega
        obtain ⟨t1, t2, _⟩ := FB hm hl (List.getElem_mem hk)
        have hco : cOK (cad (Stp.c x) (wys m l (Stp.p x))[k]) := by
          obtain ⟨⟨o1, o2⟩, o3, o4⟩ := hcx
          have hcb := hj.cb
          refine ⟨⟨?_, ?_⟩, ?_, ?_⟩
          · show 0 ≤ (Stp.c x).1 + _; omega
          · show (Stp.c x).1 + (wys m l (Stp.p x))[k].tk ≤ 1000000000; omega
          · show 0 ≤ (Stp.c x).2 + 1; omega
          · show (Stp.c x).2 + 1 ≤ 1000000000
            obtain ⟨_, _, a, b⟩ := hrc.ok hm hl
            omega
        have hco' := hco
        unfold cOK cad at hco'
        dsimp only at hco'
        refine Bq g52 rfl (AT (by show _ ≤ (Stp.c x).1 + (wys m l (Stp.p x))[k].tk ∧ (Stp.c x).1 + (wys m l (Stp.p x))[k].tk ≤ _; omega) ?_)
        refine Bq g52 rfl (AT (by show _ ≤ (Stp.c x).2 + 1 ∧ (Stp.c x).2 + 1 ≤ _; omega) ?_)
        refine AP ⟨_, AV g21 rfl, ?_⟩
        refine lkC (p := (wys m l (Stp.p x))[k].to) (hr.g1 hP) ⟨_, _, rfl, ?_⟩
        refine Ag fun J82 h82 => ?_
        have k82 : ∀ t, (t = true ↔ ∀ c', lkA out (wys m l (Stp.p x))[k].to = some c' → clt (cad (Stp.c x) (wys m l (Stp.p x))[k]) c') → J82 t τ := by
          intro t ht
          rw [h82]
          intro _
          refine IU (fun et => ?_) (fun et => ?_)
          · have hlt := ht.1 et
            refine AP ⟨_, AV g21 rfl, ?_⟩
            refine upC (p := (wys m l (Stp.p x))[k].to) (c := cad (Stp.c x) (wys m l (Stp.p x))[k]) (hr.g1 hP) ?_
            have hr := hr.set1 hP (upA out (wys m l (Stp.p x))[k].to (cad (Stp.c x) (wys m l (Stp.p x))[k]))
            generalize τ.ins b1 (mpo AS (upA out (wys m l (Stp.p x))[k].to (cad (Stp.c x) (wys m l (Stp.p x))[k]))) = τ at hr ⊢
            obtain ⟨_, g23, _, _, _, _⟩ := getU hr
            refine AP ⟨_, AV g23 rfl, ?_⟩
            have hql := hj.ql
            have hca : LH zs := fun z hz => Kc hm hl (hj.dj.qs _ (Ii.2 ⟨z, hz, rfl⟩)).1 (hj.ub z hz) hdl2
            refine Bg DI (hr.call hP (Q := fun v vs => vs.Perm (stp (wys m l (Stp.p x))[k].to (cad (Stp.c x) (wys m l (Stp.p x))[k]) :: zs) ∧ HO vs vs.length) fun s2 s hs => Af.mono (SL (x := stp (wys m l (Stp.p x))[k].to (cad (Stp.c x) (wys m l (Stp.p x))[k])) hs hca hco hj.ho (by have := Ln (l := l) (p := Stp.p x) hm; omega)) fun v s' ⟨a, ys, b, c, d⟩ => ⟨ys, ⟨b, c⟩, d⟩) ?_
            rintro v τ' ⟨vs, ⟨hp, hvo⟩, hr⟩
            obtain ⟨_, _, _, _, _, glb⟩ := getU hr
            exact ⟨glb, true, rfl, fun _ => ⟨_, vs, hj.push hm hl hk hlt hp hvo, turn hr⟩, fun x => by cases x⟩
          · refine ⟨glb, true, rfl, fun _ => ⟨out, zs, hj.pass hk ?_, turn hr⟩, fun x => by cases x⟩
            cases hk2 : lkA out (wys m l (Stp.p x))[k].to with
            | none =>
              have := ht.2 fun c' hc => by rw [hk2] at hc; cases hc
              rw [et] at this
              cases this
            | some c' =>
              refine ⟨c', rfl, fun hlt => ?_⟩
              have := ht.2 fun c'' hc => by rw [hk2] at hc; cases hc; exact hlt
              rw [et] at this
              cases this
        cases hk2 : lkA out (wys m l (Stp.p x))[k].to with
        | none =>
          refine C1 (k82 true ⟨fun _ c' hc => ?_, fun _ => rfl⟩)
          rw [hk2] at hc
          cases hc
        | some c' =>
          refine CX ?_
          have hc' := Kc hm hl (hj.dj.so _ _ hk2) (hj.ob _ _ hk2) hdl2
          refine Da (c := cad (Stp.c x) (wys m l (Stp.p x))[k]) (d := c') hco hc' (k82 _ ?_)
          rw [decide_eq_true_iff, Fd]
          exact ⟨fun hlt c'' hc => by rw [hk2] at hc; cases hc; exact hlt, fun hh => hh c' hk2⟩
      · rintro v σ' (⟨out, zs, hj, hr⟩ | hF)
        · obtain ⟨_, _, _, _, _, glb⟩ := getU hr
          refine ⟨.ready, none, glb, rfl, ?_⟩
          obtain ⟨t, h1, h2⟩ := (turn (st' := .exhausted) hr).untop
          have hn := hj.n0
          have hwl := Ln (l := l) (p := Stp.p x) hm
          obtain ⟨s, h3, s3, ⟨s2, ⟨s1, h4, h5⟩, h6⟩, h7⟩ := h1
          refine NK _ ?_ (h5.sub.trans (h6.sub.trans (h7.sub.trans h2.sub))) ⟨b21, b23, out, _, zs, rfl, rfl, rfl, hj.done hm, s, h3, h4⟩
          omega
        · exact hF.elim
  · obtain rfl : xs = [] := List.eq_nil_of_length_eq_zero (by omega)
    rw [h12]
    intro _
    refine AP ⟨_, AV g21 rfl, ?_⟩
    obtain ⟨s, ⟨s1, s2, h1, h2, h3⟩, h4⟩ := hr
    exact BN (h2.sub.trans ((Ao.stk.sub h3).trans (hU.sub h4))) ⟨b1, out, rfl, h1, hi.dj.fin hl, fun p c hc => Kc hm hl (hi.dj.so _ _ hc) (hi.ob _ _ hc) hdl⟩
end
end Go.Proofs.Ytkdjkkimngeloaa
namespace Go.Proofs.Ytkdjkkimngeloaa
open Go.RowKit
def Sn (m : Mp) (l : Lry) (t : Int) (c : Cst) : Prop := (∃ p, p.1 = t ∧ Rc m l p c) ∧ ∀ p c', p.1 = t → Rc m l p c' → ¬ clt c' c
def Non (m : Mp) (l : Lry) (t : Int) : Prop := ∀ p c, p.1 = t → ¬ Rc m l p c
theorem K5 {n i : Nat} {seen : List Nat} (hi : i < n) (hs : i ∉ seen) : ((List.range n).filter fun j => decide (j ∉ seen ++ [i])).length < ((List.range n).filter fun j => decide (j ∉ seen)).length := by
  have e : ((List.range n).filter fun j => decide (j ∉ seen ++ [i])) = ((List.range n).filter fun j => decide (j ∉ seen)).filter fun j => decide (j ∉ seen ++ [i]) := by
    rw [List.filter_filter]
    refine List.filter_congr fun j _ => ?_
    by_cases h1 : j ∈ seen <;> simp [h1]
  rw [e]
  refine List.length_filter_lt_length_iff_exists.2 ⟨i, ?_, by simp⟩
  rw [List.mem_filter]
  exact ⟨List.mem_range.2 hi, by simpa using hs⟩
theorem IG {out : List (Plc × Cst)} (hn : (out.map Prod.fst).Nodup) {i : Nat} (hi : i < out.length) : lkA out out[i].1 = some out[i].2 := QB hn (List.getElem_mem hi)
section
variable {σ : Hp}
set_option maxRecDepth 100000 in
theorem Iz {w : MW} {m : Mp} {l : Lry} {t : Int} (h : MIn σ w m) (hm : BJ m) (hl : AZ m l) : Af Try.prog Fu #[atV w l, .int .i64 t] σ fun v σ' => ∃ c b, v = .tuple #[AS c, .bool b] ∧ σ' = σ ∧ (b = true → Sn m l t c ∧ cOK c) ∧ (b = false → Non m l t) := by
  refine Eh _ _ _ _ _ _ _ _ _ _ _ _ _ _ _ ?_
  unfold BU
  refine Ag fun J3 h3 => ?_
  refine Bg Ce (OY h hm hl) ?_
  rintro v σ8 ⟨mb, out, rfl, hb, hL, hcb⟩
  refine ⟨_, rfl, ?_⟩
  obtain ⟨f1, f2, hk⟩ := Qx
  refine Qy hk hb.get fun b10 n10 => ?_
  refine ⟨fun q b a1 a2 τ => ∃ seen : List Nat, q = ((List.range out.length).filter fun j => decide (j ∉ seen)).length ∧ Blk b10 (.mapIter (some mb) out.length ⟨seen⟩ out.length) σ8 τ ∧ (∀ i ∈ seen, i < out.length) ∧ (b = false → ∀ i (_ : i < out.length), i ∈ seen → out[i].1.1 ≠ t) ∧
    (b = true → (∃ p, p.1 = t ∧ lkA out p = some (a1, a2)) ∧ ∀ i (_ : i < out.length), i ∈ seen → out[i].1.1 = t → ¬ clt out[i].2 (a1, a2)), ⟨_, [], rfl, ⟨n10, rfl⟩, fun i hi => (by cases hi), fun _ i _ hi => (by cases hi), fun hh => (by cases hh)⟩, ?_⟩
  rintro q b a1 a2 τ ⟨seen, rfl, hit, hsn, hno, hyes⟩ _
  have gm : τ mb = some (mpo AS out, true) := hit.sub _ _ hb.get
  refine Qz gm hit.get (fun hall => FC ?_) (fun i hi hns vs => Hu ?_)
  · rw [h3]
    intro _
    refine BN (hb.sub.trans hit.sub) ⟨(a1, a2), b, rfl, rfl, fun e => ?_, fun e p c hp hrc => ?_⟩
    · obtain ⟨⟨p, hp, hlk⟩, hmin⟩ := hyes e
      refine ⟨⟨⟨p, hp, hL.so _ _ hlk⟩, fun p' c' hp' hrc => ?_⟩, hcb _ _ hlk⟩
      obtain ⟨c2, g1, g2⟩ := hL.le _ _ hrc
      obtain ⟨i, hi, ei⟩ := List.mem_iff_getElem.1 (HS g1)
      have := hmin i hi (hall i hi) (by rw [ei]; exact hp')
      rw [ei] at this
      exact Df this g2
    · obtain ⟨c2, g1, g2⟩ := hL.le _ _ hrc
      obtain ⟨i, hi, ei⟩ := List.mem_iff_getElem.1 (HS g1)
      exact hno e i hi (hall i hi) (by rw [ei]; exact hp)
  · have hit2 : Blk b10 (.mapIter (some mb) out.length ⟨seen ++ [i]⟩ out.length) σ8 (τ.ins b10 (.mapIter (some mb) out.length ⟨seen ++ [i]⟩ out.length)) := hit.upd
    generalize τ.ins b10 (.mapIter (some mb) out.length ⟨seen ++ [i]⟩ out.length) = τ2 at hit2 ⊢
    refine QC (E := out) (en := AS) (hit2.sub _ _ hb.get) hit2.get hi ?_
    refine ⟨_, _, rfl, _, _, rfl, ?_⟩
    refine Ag fun J30 h30 => ?_
    have hlt := K5 hi hns
    have hsn2 : ∀ j ∈ seen ++ [i], j < out.length := fun j hj => by
      rcases List.mem_append.1 hj with hj | hj
      · exact hsn j hj
      · rw [List.mem_singleton] at hj; omega
    have hci := hcb _ _ (IG hL.nd hi)
    have kt : out[i].1.1 = t → (b = true → clt out[i].2 (a1, a2)) → J30 true τ2 := by
      intro ht hc
      rw [h30]
      intro _
      refine Hu (BP _ hlt ⟨seen ++ [i], rfl, hit2, hsn2, fun e => (by cases e), fun _ => ⟨⟨out[i].1, ht, IG hL.nd hi⟩, fun j hj hjs hjt => ?_⟩⟩)
      rcases List.mem_append.1 hjs with hjs | hjs
      · cases b with
        | false => exact absurd hjt (hno rfl j hj hjs)
        | true => exact fun x => (hyes rfl).2 j hj hjs hjt (BD x (hc rfl))
      · rw [List.mem_singleton] at hjs
        subst hjs
        exact A0
    have kf : (out[i].1.1 = t → b = true ∧ ¬ clt out[i].2 (a1, a2)) → J30 false τ2 := by
      intro hc
      rw [h30]
      intro _
      refine FC (BP _ hlt ⟨seen ++ [i], rfl, hit2, hsn2, fun e j hj hjs => ?_, fun e => ⟨(hyes e).1, fun j hj hjs hjt => ?_⟩⟩)
      · rcases List.mem_append.1 hjs with hjs | hjs
        · exact hno e j hj hjs
        · rw [List.mem_singleton] at hjs
          subst hjs
          intro x
          have := (hc x).1
          rw [e] at this
          cases this
      · rcases List.mem_append.1 hjs with hjs | hjs
        · exact (hyes e).2 j hj hjs hjt
        · rw [List.mem_singleton] at hjs
          subst hjs
          exact (hc hjt).2
    refine Bd (fun ht => ?_) (fun ht => kf fun x => absurd x ht)
    cases b with
    | false => exact C1 (kt ht fun e => by cases e)
    | true =>
      refine CX ?_
      obtain ⟨⟨p, hp, hlk⟩, _⟩ := hyes rfl
      refine Da (c := out[i].2) (d := (a1, a2)) hci (hcb _ _ hlk) ?_
      by_cases hc : clt out[i].2 (a1, a2)
      · rw [decide_eq_true (Fd.2 hc)]
        exact kt ht fun _ => hc
      · rw [decide_eq_false fun x => hc (Fd.1 x)]
        exact kf fun _ => ⟨rfl, hc⟩
end
end Go.Proofs.Ytkdjkkimngeloaa
namespace Go.Proofs.Ytkdjkkimngeloaa
open Go.RowKit
def cAt (out : List (Plc × Cst)) (p : Plc) : Cst := (lkA out p).getD (0, 0)
theorem L0 {out : List (Plc × Cst)} (h : cB out) (p : Plc) : cOK (cAt out p) := by
  unfold cAt
  cases hk : lkA out p with
  | none => exact ⟨⟨Int.le_refl _, show (0 : Int) ≤ _ by decide⟩, Int.le_refl _, show (0 : Int) ≤ _ by decide⟩
  | some c => exact h _ _ hk
section
variable {σ : Hp}
set_option maxRecDepth 100000 in
theorem Py {b15 mb : Nat} {out : List (Plc × Cst)} {p q : Plc} {rw1 rw2 : Bool} (hb : σ b15 = some (ovO mb, rw1)) (hm : σ mb = some (mpo AS out, rw2)) (hc : cB out) : Af Try.prog AX #[BK p, BK q, .pointer (some ⟨b15, 0, none⟩)] σ fun v σ' => v = .int .i64 (LO (cAt out q) (cAt out p)) ∧ σ' = σ := by
  refine Ei _ _ _ _ _ _ _ ?_
  unfold BR
  refine AP ⟨_, AV hb rfl, AP ⟨_, AV hb rfl, ?_, ?_⟩⟩
  · refine QD (p := q) hm ⟨Hp.Sub.refl _, _, _, rfl, QD (p := p) hm ⟨Hp.Sub.refl _, _, _, rfl, ?_⟩⟩
    exact Da (c := cAt out q) (d := cAt out p) (L0 hc q) (L0 hc p) (AC ⟨rfl, rfl⟩)
  · refine QD (p := p) hm ⟨Hp.Sub.refl _, _, _, rfl, QD (p := q) hm ⟨Hp.Sub.refl _, _, _, rfl, ?_⟩⟩
    exact Da (c := cAt out q) (d := cAt out p) (L0 hc q) (L0 hc p) (AC ⟨rfl, rfl⟩)
end
end Go.Proofs.Ytkdjkkimngeloaa
