/- Trimmed by wip/trim.py to what this claim rests on. -/
import Derived.Test.YtkdjkkimngeloaaZVe2
import Derived.Test.YtkdjkkimngeloaaZVb17
namespace Go.Proofs.Ytkdjkkimngeloaa
open Go.RowKit
theorem Non.of {m : Mp} {l : Lry} {t : Int} (h : ∀ j s, Jw m l (Ju m l) (bgn l) j s → s.tn ≠ t) : Non m l t := fun p c hp hrc => by
  obtain ⟨j, s, h1, rfl, _⟩ := hrc
  exact h j s h1 hp
theorem NC.uniq {m : Mp} {l : Lry} {a b : List Int} {k : Nat} (h : NC m l a k) (h' : NC m l b k) : a = b := by
  apply List.ext_getElem
  · rw [h.1, h'.1]
  · intro i h1 h2
    rcases h.2 i h1 with ⟨n1, e1⟩ | ⟨c1, s1, e1⟩ <;> rcases h'.2 i h2 with ⟨n2, e2⟩ | ⟨c2, s2, e2⟩
    · rw [e1, e2]
    · exact absurd n1 s2.nn
    · exact absurd n2 s1.nn
    · rw [e1, e2]
      obtain ⟨⟨p1, p2, p3⟩, q1⟩ := s1
      obtain ⟨⟨p4, p5, p6⟩, q2⟩ := s2
      have a1 := q1 _ _ p5 p6
      have a2 := q2 _ _ p2 p3
      unfold clt at a1 a2
      omega
theorem Bst.sn {m : Mp} {l : Lry} {t : Int} {a : Trp} (h : Bst m l t a) : Sn m l t (a.1 - l.rdy, (a.2.length : Int)) := by
  obtain ⟨s, h1, h2, h3, h4⟩ := h
  refine ⟨⟨(s.tn, s.dv), h2, ⟨_, s, h1, rfl, by rw [h3]⟩⟩, fun p c' hp hrc => ?_⟩
  obtain ⟨j, s', g1, rfl, rfl⟩ := hrc
  rcases h4 j s' g1 hp with e | e
  · have e1 : a.1 = s'.sn := congrArg Prod.fst e
    have e2 : a.2 = j := congrArg Prod.snd e
    rw [e1, e2]
    exact AU
  · rcases e with e | ⟨e, e2 | ⟨e2, _⟩⟩
    · have e : a.1 < s'.sn := e
      unfold clt
      dsimp only
      omega
    · have e : a.1 = s'.sn := e
      have e2 : a.2.length < j.length := e2
      unfold clt
      dsimp only
      omega
    · have e : a.1 = s'.sn := e
      have e2 : a.2.length = j.length := e2
      unfold clt
      dsimp only
      omega
section
variable {σ : Hp}
theorem SP {A : Option Addr} {n : Nat} {xs : List TrT} {i : Int} {K : Int → Int → Int → Option Addr → Nat → Nat → Prop} (h : RdS sT σ A n xs) (hi : 0 ≤ i) (hn : i.toNat < xs.length) (hk : ∀ r : TrT, xs[i.toNat] = r → K r.1 r.2.1 r.2.2.1 r.2.2.2.1 r.2.2.2.2.1 r.2.2.2.2.2) :
    ix A n i 4 fun b a => ldI σ .i64 b a fun x1 => ldI σ .i64 b (a + 1) fun x2 => ldI σ .i64 b (a + 2) fun x3 => ldS σ b (a + 3) fun A n c => K x1 x2 x3 A n c := by
  refine GQ (ss := sT) h rfl hi hn fun b o hc => ?_
  exact AZ (hc 0 (by decide)) (AZ (hc 1 (by decide)) (AZ (hc 2 (by decide)) (Sd (hc 3 (by decide)) (hk _ rfl))))
theorem SD {A : Option Addr} {n : Nat} {xs : List TrT} {i : Int} {K : Int → Prop} (h : RdS sT σ A n xs) (hi : 0 ≤ i) (hn : i.toNat < xs.length) (hk : K xs[i.toNat].1) :
    ix A n i 4 fun b a => ldI σ .i64 b a K := by
  refine GQ (ss := sT) h rfl hi hn fun b o hc => ?_
  exact AZ (hc 0 (by decide)) hk
set_option maxRecDepth 100000 in
theorem Qp {w : MW} {m : Mp} {l : Lry} {t : Int} (h : MIn σ w m) (hm : BB m) (hl : A0 m l) : Ae Try.prog KD #[w.v, l.v, .int .i64 t] σ fun v σ' => ∃ s A n c b, v = .tuple #[tkV s A n c, .bool b] ∧ Hp.Sub σ σ' ∧ (b = true → ∃ js, RdS sJ σ' A n js ∧ Bst m l t (s.sn, js)) ∧ (b = false → Non m l t) := by
  refine IT _ _ _ _ _ _ _ _ _ _ _ _ _ _ _ ?_
  unfold Es
  refine Bp GL (Rj h hm hl) ?_
  rintro v σ2 ⟨A, n, c, xs, ts, s0, rfl, hs, ho, htr, hti, hcl⟩
  refine ⟨_, _, _, rfl, ?_⟩
  have hrd : RdS sT σ2 A n xs := ho.rd
  have hnx : n = xs.length := hrd.1
  have hs2 : Hp.Sub s0 σ2 := ho.sub
  have htr := htr.up hs2
  have hss := hs.trans hs2
  have hxl := htr.1
  have hl6 : ts.length ≤ 6012 := Nat.le_trans (hti.len hm hl) (EO hm hl)
  have rd : ∀ (k : Nat) (_ : k < ts.length) {K : Int → Int → Int → Option Addr → Nat → Nat → Prop}, (∀ A' n' c', RdS sJ σ2 A' n' ts[k].2 → K ts[k].1.tn ts[k].1.sn ts[k].1.dv A' n' c') → ix A n (k : Int) 4 fun b a => ldI σ2 .i64 b a fun x1 => ldI σ2 .i64 b (a + 1) fun x2 => ldI σ2 .i64 b (a + 2) fun x3 => ldS σ2 b (a + 3) fun A n c => K x1 x2 x3 A n c := by
    intro k hk K hK
    refine SP hrd (by omega) (by simp; omega) fun r hr => ?_
    simp only [Int.toNat_natCast] at hr
    obtain ⟨A', n', c', e, hj⟩ := htr.2 k (by omega) hk
    rw [hr] at e
    subst e
    exact hK A' n' c' hj
  refine Ag fun J6 h6 => ?_
  refine ⟨fun q a i τ => ∃ k : Nat, q = ts.length - k ∧ i = k ∧ k ≤ ts.length ∧ τ = σ2 ∧ ((a = -1 ∧ ∀ j (_ : j < ts.length), j < k → ts[j].1.tn ≠ t) ∨ ∃ (z : Nat) (hz : z < ts.length), a = z ∧ ts[z].1.tn = t ∧ ∀ j (_ : j < ts.length), j < k → ts[j].1.tn = t → lef ts[z].a ts[j].a), ⟨_, 0, rfl, rfl, Nat.zero_le _, rfl, .inl ⟨rfl, fun j _ hj => absurd hj (Nat.not_lt_zero _)⟩⟩, ?_⟩
  rintro q a i τ ⟨k, rfl, rfl, hk, rfl, ha⟩ _
  refine Ba (fun hlt => ?_) (fun hge => ?_)
  · have hkl : k < ts.length := by omega
    refine Ag fun J22 h22 => ?_
    have k22 : ∀ a : Int, ((a = -1 ∧ ∀ j (_ : j < ts.length), j < k + 1 → ts[j].1.tn ≠ t) ∨ ∃ (z : Nat) (hz : z < ts.length), a = z ∧ ts[z].1.tn = t ∧ ∀ j (_ : j < ts.length), j < k + 1 → ts[j].1.tn = t → lef ts[z].a ts[j].a) → J22 a τ := by
      intro a ha
      rw [h22]
      intro _
      exact AR (by omega) (BC _ (by omega) ⟨k + 1, rfl, rfl, by omega, rfl, ha⟩)
    clear h22
    have lt1 : ∀ {j}, j < k + 1 → j ≠ k → j < k := fun a b => by omega
    refine Ag fun J29 h29 => ?_
    have kt : ts[k].1.tn = t → (∀ (z : Nat) (hz : z < ts.length), a = z → bef ts[k].a ts[z].a) → J29 true τ := by
      intro ht hb
      rw [h29]
      intro _
      refine Fh (k22 _ (.inr ⟨k, hkl, rfl, ht, fun j hj hjk hjt => ?_⟩))
      by_cases e : j = k
      · subst e
        exact Ez _
      · rcases ha with ⟨_, hn⟩ | ⟨z, hz, e1, _, hle⟩
        · exact absurd hjt (hn j hj (lt1 hjk e))
        · exact Gu (.inr (hb z hz e1)) (hle j hj (lt1 hjk e) hjt)
    have kf : (ts[k].1.tn = t → ∃ (z : Nat) (hz : z < ts.length), a = z ∧ lef ts[z].a ts[k].a) → J29 false τ := by
      intro hb
      rw [h29]
      intro _
      refine EM (k22 _ ?_)
      rcases ha with ⟨e1, hn⟩ | ⟨z, hz, e1, ht, hle⟩
      · refine .inl ⟨e1, fun j hj hjk hjt => ?_⟩
        by_cases e : j = k
        · subst e
          obtain ⟨z, hz, e2, _⟩ := hb hjt
          omega
        · exact hn j hj (lt1 hjk e) hjt
      · refine .inr ⟨z, hz, e1, ht, fun j hj hjk hjt => ?_⟩
        by_cases e : j = k
        · subst e
          obtain ⟨z', hz', e2, hle2⟩ := hb hjt
          obtain rfl : z' = z := by omega
          exact hle2
        · exact hle j hj (lt1 hjk e) hjt
    clear h29
    refine SD hrd (by omega) (by simp; omega) ?_
    have e0 : (xs[((k : Int)).toNat]'(by simp; omega)).1 = ts[k].1.tn := by
      simp only [Int.toNat_natCast]
      obtain ⟨A', n', c', e, hj⟩ := htr.2 k (by omega) hkl
      rw [e]
    rw [e0]
    refine Ba (fun ht => ?_) (fun ht => kf fun e => absurd e ht)
    rcases ha with ⟨rfl, hn⟩ | ⟨z, hz, rfl, htz, hle⟩
    · refine Ba (fun _ => kt ht fun z hz e => by omega) (fun g => absurd (show (-1 : Int) < 0 by decide) g)
    · refine Ba (fun g => by omega) (fun _ => ?_)
      refine rd k hkl fun A1 n1 c1 hj1 => rd z hz fun A2 n2 c2 hj2 => ?_
      have hjl := (hti.mem_ok hm hl (List.getElem_mem hkl)).2
      have hbd := hti.bd _ (List.getElem_mem hkl)
      have hy := hl.y
      refine Bp C6 (MM (s := ts[k].1) (s' := ts[z].1) hj1 hj2 (by omega)) ?_
      rintro v τ3 ⟨bt, rfl, rfl, hbt⟩
      refine ⟨_, rfl, ?_⟩
      cases bt with
      | true =>
        refine kt ht fun z' hz' e => ?_
        obtain rfl : z' = z := by omega
        exact hbt.1 rfl
      | false =>
        refine kf fun _ => ⟨z, hz, rfl, JC.2 fun hb => ?_⟩
        have := hbt.2 hb
        cases this
  · obtain rfl : k = ts.length := by omega
    rw [h6]
    intro _
    rcases ha with ⟨rfl, hn⟩ | ⟨z, hz, rfl, htz, hle⟩
    · refine Ba (fun _ => Az ⟨⟨0, 0, 0⟩, none, 0, 0, false, rfl, hss, fun e => (by cases e), fun _ => Non.of (hti.none hcl fun k hk => hn k hk hk)⟩) (fun g => absurd (show (-1 : Int) < 0 by decide) g)
    · refine Ba (fun g => by omega) (fun _ => ?_)
      refine rd z hz fun A1 n1 c1 hj1 => ?_
      refine Az ⟨ts[z].1, A1, n1, c1, true, rfl, hss, fun _ => ⟨ts[z].2, hj1, hti.best hm hl hcl hz htz fun k hk e => hle k hk hk e⟩, fun e => by cases e⟩
set_option maxRecDepth 100000 in
theorem QW {w : MW} {m : Mp} {l : Lry} (h : MIn σ w m) (hp : m.pk.length ≤ 4294967296) (hr : m.rs.length ≤ 4294967296) : Ae Try.prog KK #[w.v, l.v] σ fun v σ' => Hp.Sub σ σ' ∧
    ((¬ eC m [l] = 0 ∧ v = .tuple #[.slice none 0 0, .int .i64 (eC m [l])]) ∨ (eC m [l] = 0 ∧ ∃ A n c out, v = .tuple #[.slice A n c, .int .i64 0] ∧ RdS [.int .i64] σ' A n out ∧ NC m l out m.pk.length)) := by
  refine IV _ _ _ _ _ _ _ _ _ _ _ _ _ _ ?_
  unfold El
  have hpn := h.pn
  refine clI Gy (QR h hp hr) (Bx (fun e => Az ⟨Hp.Sub.refl _, .inl ⟨e, rfl⟩⟩) (fun e => ?_))
  obtain ⟨hm, hl⟩ := RL e
  have hn12 := hm.n
  refine ⟨by omega, by omega, by omega, ?_⟩
  refine Ag fun J6 h6 => ?_
  refine ⟨fun q i xs τ => ∃ k : Nat, q = m.pk.length - k ∧ i = k ∧ k ≤ m.pk.length ∧ Hp.Sub σ τ ∧ xs.length = m.pk.length ∧ ∀ i (_ : i < xs.length), i < k → (Non m l i ∧ xs[i] = -1) ∨ ∃ c, Sn m l i c ∧ xs[i] = l.rdy + c.1, ⟨_, 0, rfl, rfl, Nat.zero_le _, Hp.Sub.refl _, by simp [hpn], fun i _ hi => absurd hi (Nat.not_lt_zero _)⟩, ?_⟩
  rintro q i xs τ ⟨k, rfl, rfl, hk, hs, hxl, hx⟩ _
  refine Ba (fun hlt => ?_) (fun hge => ?_)
  · have hkl : k < m.pk.length := by omega
    refine Ag fun J18 h18 => ?_
    have k18 : ∀ (y : Int) τ', Hp.Sub σ τ' → ((Non m l (k : Nat) ∧ y = -1) ∨ ∃ c, Sn m l (k : Nat) c ∧ y = l.rdy + c.1) → ∀ ys : List Int, ys = xs.set k y → J18 ys τ' := by
      rintro y τ' hs' hy ys rfl
      rw [h18]
      intro _
      refine AR (by omega) (BC _ (by omega) ⟨k + 1, rfl, rfl, by omega, hs', by simp [hxl], fun i hi hik => ?_⟩)
      by_cases e1 : k = i
      · subst e1
        rw [List.getElem_set_self]
        exact hy
      · rw [List.getElem_set_ne e1]
        exact hx i (by simpa using hi) (by omega)
    refine Bp GD (Qp (t := (k : Nat)) (h.up hs) hm.ok hl) ?_
    rintro v σ24 ⟨s, A, n, c, b, rfl, hs2, h1, h2⟩
    refine ⟨_, _, _, _, _, _, _, rfl, by omega, by omega, No (show ((k : Int)).toNat < xs.length by rw [Int.toNat_natCast]; omega) ?_⟩
    refine HH (fun eb => ⟨by omega, by simp; omega, No (by simp; omega) ?_⟩) (fun eb => ?_)
    · exact k18 (-1) _ (hs.trans hs2) (.inl ⟨h2 eb, rfl⟩) _ (by simp)
    · obtain ⟨js, _, hb⟩ := h1 eb
      refine k18 s.sn _ (hs.trans hs2) (.inr ⟨_, hb.sn, ?_⟩) _ (by simp)
      show s.sn = l.rdy + (s.sn - l.rdy)
      omega
  · have hkp : k = m.pk.length := by omega
    subst hkp
    rw [h6]
    intro _ A n c σ9 ho
    exact Az ⟨hs.trans (AA.sub ho), .inr ⟨e, A, n, c, xs, rfl, AA.rd ho, hxl, fun i hi => hx i hi (by omega)⟩⟩
end
end Go.Proofs.Ytkdjkkimngeloaa
