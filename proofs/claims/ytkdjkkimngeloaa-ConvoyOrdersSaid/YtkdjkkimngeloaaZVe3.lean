/- Trimmed by wip/trim.py to what this claim rests on. -/
import Derived.Test.YtkdjkkimngeloaaZVe2
import Derived.Test.YtkdjkkimngeloaaZVb17
namespace Go.Proofs.Ytkdjkkimngeloaa
open Go.RowKit
theorem Bst.nn {m : Mp} {l : Lry} {t : Int} {a : Trp} (h : Bst m l t a) : ¬ Non m l t := fun hn => by
  obtain ⟨s, h1, h2, _⟩ := h
  exact hn (s.tn, s.dv) _ h2 ⟨_, s, h1, rfl, rfl⟩
theorem Non.of {m : Mp} {l : Lry} {t : Int} (h : ∀ j s, Jw m l (Iu m l) (bgn l) j s → s.tn ≠ t) : Non m l t := fun p c hp hrc => by
  obtain ⟨j, s, h1, rfl, _⟩ := hrc
  exact h j s h1 hp
section
variable {σ : Hp}
theorem Wo {A : Option Addr} {n : Nat} {xs : List TrT} {i : Int} {K : Int → Int → Int → Option Addr → Nat → Nat → Prop} (h : RdS sT σ A n xs) (hi : 0 ≤ i) (hn : i.toNat < xs.length) (hk : ∀ r : TrT, xs[i.toNat] = r → K r.1 r.2.1 r.2.2.1 r.2.2.2.1 r.2.2.2.2.1 r.2.2.2.2.2) :
    ix A n i 4 fun b a => ldI σ .i64 b a fun x1 => ldI σ .i64 b (a + 1) fun x2 => ldI σ .i64 b (a + 2) fun x3 => ldS σ b (a + 3) fun A n c => K x1 x2 x3 A n c := by
  refine HU (ss := sT) h rfl hi hn fun b o hc => ?_
  exact Br (hc 0 (by decide)) (Br (hc 1 (by decide)) (Br (hc 2 (by decide)) (VS (hc 3 (by decide)) (hk _ rfl))))
theorem VQ {A : Option Addr} {n : Nat} {xs : List TrT} {i : Int} {K : Int → Prop} (h : RdS sT σ A n xs) (hi : 0 ≤ i) (hn : i.toNat < xs.length) (hk : K xs[i.toNat].1) :
    ix A n i 4 fun b a => ldI σ .i64 b a K := by
  refine HU (ss := sT) h rfl hi hn fun b o hc => ?_
  exact Br (hc 0 (by decide)) hk
set_option maxRecDepth 100000 in
theorem SF {w : MW} {m : Mp} {l : Lry} {t : Int} (h : MIn σ w m) (hm : BE m) (hl : Bi m l) : Ag Try.prog Nl #[w.v, l.v, .int .i64 t] σ fun v σ' => ∃ s A n c b, v = .tuple #[tkV s A n c, .bool b] ∧ Hp.Sub σ σ' ∧ (b = true → ∃ js, RdS sJ σ' A n js ∧ Bst m l t (s.sn, js)) ∧ (b = false → Non m l t) := by
  refine KV _ _ _ _ _ _ _ _ _ _ _ _ _ _ _ ?_
  unfold FC
  refine AV Iv (Uh h hm hl) ?_
  rintro v σ2 ⟨A, n, c, xs, ts, s0, rfl, hs, ho, htr, hti, hcl⟩
  refine ⟨_, _, _, rfl, ?_⟩
  have hrd : RdS sT σ2 A n xs := ho.rd
  have hnx : n = xs.length := hrd.1
  have hs2 : Hp.Sub s0 σ2 := ho.sub
  have htr := htr.up hs2
  have hss := hs.trans hs2
  have hxl := htr.1
  have hl6 : ts.length ≤ 6012 := Nat.le_trans (hti.len hm hl) (FN hm hl)
  have rd : ∀ (k : Nat) (_ : k < ts.length) {K : Int → Int → Int → Option Addr → Nat → Nat → Prop}, (∀ A' n' c', RdS sJ σ2 A' n' ts[k].2 → K ts[k].1.tn ts[k].1.sn ts[k].1.dv A' n' c') → ix A n (k : Int) 4 fun b a => ldI σ2 .i64 b a fun x1 => ldI σ2 .i64 b (a + 1) fun x2 => ldI σ2 .i64 b (a + 2) fun x3 => ldS σ2 b (a + 3) fun A n c => K x1 x2 x3 A n c := by
    intro k hk K hK
    refine Wo hrd (by omega) (by simp; omega) fun r hr => ?_
    simp only [Int.toNat_natCast] at hr
    obtain ⟨A', n', c', e, hj⟩ := htr.2 k (by omega) hk
    rw [hr] at e
    subst e
    exact hK A' n' c' hj
  refine Ad fun J6 h6 => ?_
  refine ⟨fun q a i τ => ∃ k : Nat, q = ts.length - k ∧ i = k ∧ k ≤ ts.length ∧ τ = σ2 ∧ ((a = -1 ∧ ∀ j (_ : j < ts.length), j < k → ts[j].1.tn ≠ t) ∨ ∃ (z : Nat) (hz : z < ts.length), a = z ∧ ts[z].1.tn = t ∧ ∀ j (_ : j < ts.length), j < k → ts[j].1.tn = t → lef ts[z].a ts[j].a), ⟨_, 0, rfl, rfl, Nat.zero_le _, rfl, .inl ⟨rfl, fun j _ hj => absurd hj (Nat.not_lt_zero _)⟩⟩, ?_⟩
  rintro q a i τ ⟨k, rfl, rfl, hk, rfl, ha⟩ _
  refine AK (fun hlt => ?_) (fun hge => ?_)
  · have hkl : k < ts.length := by omega
    refine Ad fun J22 h22 => ?_
    have k22 : ∀ a : Int, ((a = -1 ∧ ∀ j (_ : j < ts.length), j < k + 1 → ts[j].1.tn ≠ t) ∨ ∃ (z : Nat) (hz : z < ts.length), a = z ∧ ts[z].1.tn = t ∧ ∀ j (_ : j < ts.length), j < k + 1 → ts[j].1.tn = t → lef ts[z].a ts[j].a) → J22 a τ := by
      intro a ha
      rw [h22]
      intro _
      exact AL (by omega) (Bf _ (by omega) ⟨k + 1, rfl, rfl, by omega, rfl, ha⟩)
    clear h22
    have lt1 : ∀ {j}, j < k + 1 → j ≠ k → j < k := fun a b => by omega
    refine Ad fun J29 h29 => ?_
    have kt : ts[k].1.tn = t → (∀ (z : Nat) (hz : z < ts.length), a = z → bef ts[k].a ts[z].a) → J29 true τ := by
      intro ht hb
      rw [h29]
      intro _
      refine Ef (k22 _ (.inr ⟨k, hkl, rfl, ht, fun j hj hjk hjt => ?_⟩))
      by_cases e : j = k
      · subst e
        exact FY _
      · rcases ha with ⟨_, hn⟩ | ⟨z, hz, e1, _, hle⟩
        · exact absurd hjt (hn j hj (lt1 hjk e))
        · exact Ib (.inr (hb z hz e1)) (hle j hj (lt1 hjk e) hjt)
    have kf : (ts[k].1.tn = t → ∃ (z : Nat) (hz : z < ts.length), a = z ∧ lef ts[z].a ts[k].a) → J29 false τ := by
      intro hb
      rw [h29]
      intro _
      refine Dw (k22 _ ?_)
      rcases ha with ⟨e1, hn⟩ | ⟨z, hz, e1, ht, hle⟩
      · refine .inl ⟨e1, fun j hj hjk hjt => ?_⟩
        by_cases e : j = k
        · subst e
          obtain ⟨z, hz, e2, _⟩ := hb hjt
          omega
        · exact hn j hj (lt1 hjk e) hjt
      · refine .inr ⟨z, hz, e1, ht, fun j hj hjk hjt => ?_⟩
        by_cases e : j = k
        · subst e
          obtain ⟨z', hz', e2, hle2⟩ := hb hjt
          obtain rfl : z' = z := by omega
          exact hle2
        · exact hle j hj (lt1 hjk e) hjt
    clear h29
    refine VQ hrd (by omega) (by simp; omega) ?_
    have e0 : (xs[((k : Int)).toNat]'(by simp; omega)).1 = ts[k].1.tn := by
      simp only [Int.toNat_natCast]
      obtain ⟨A', n', c', e, hj⟩ := htr.2 k (by omega) hkl
      rw [e]
    rw [e0]
    refine AK (fun ht => ?_) (fun ht => kf fun e => absurd e ht)
    rcases ha with ⟨rfl, hn⟩ | ⟨z, hz, rfl, htz, hle⟩
    · refine AK (fun _ => kt ht fun z hz e => by omega) (fun g => absurd (show (-1 : Int) < 0 by decide) g)
    · refine AK (fun g => by omega) (fun _ => ?_)
      refine rd k hkl fun A1 n1 c1 hj1 => rd z hz fun A2 n2 c2 hj2 => ?_
      have hjl := (hti.mem_ok hm hl (List.getElem_mem hkl)).2
      have hbd := hti.bd _ (List.getElem_mem hkl)
      have hy := hl.y
      refine AV DU (Pv (s := ts[k].1) (s' := ts[z].1) hj1 hj2 (by omega)) ?_
      rintro v τ3 ⟨bt, rfl, rfl, hbt⟩
      refine ⟨_, rfl, ?_⟩
      cases bt with
      | true =>
        refine kt ht fun z' hz' e => ?_
        obtain rfl : z' = z := by omega
        exact hbt.1 rfl
      | false =>
        refine kf fun _ => ⟨z, hz, rfl, LS.2 fun hb => ?_⟩
        have := hbt.2 hb
        cases this
  · obtain rfl : k = ts.length := by omega
    rw [h6]
    intro _
    rcases ha with ⟨rfl, hn⟩ | ⟨z, hz, rfl, htz, hle⟩
    · refine AK (fun _ => Av ⟨⟨0, 0, 0⟩, none, 0, 0, false, rfl, hss, fun e => (by cases e), fun _ => Non.of (hti.none hcl fun k hk => hn k hk hk)⟩) (fun g => absurd (show (-1 : Int) < 0 by decide) g)
    · refine AK (fun g => by omega) (fun _ => ?_)
      refine rd z hz fun A1 n1 c1 hj1 => ?_
      refine Av ⟨ts[z].1, A1, n1, c1, true, rfl, hss, fun _ => ⟨ts[z].2, hj1, hti.best hm hl hcl hz htz fun k hk e => hle k hk hk e⟩, fun e => by cases e⟩
end
end Go.Proofs.Ytkdjkkimngeloaa
