/- Trimmed by wip/trim.py to what this claim rests on. -/
import Derived.Test.YtkdjkkimngeloaaXVe2
import Derived.Test.YtkdjkkimngeloaaXVb17
namespace Go.Proofs.Ytkdjkkimngeloaa
open Go.RowKit
theorem Bst.nn {m : Mp} {l : Lry} {t : Int} {a : Trp} (h : Bst m l t a) : ¬ Non m l t := fun hn => by
  obtain ⟨s, h1, h2, _⟩ := h
  exact hn (s.tn, s.dv) _ h2 ⟨_, s, h1, rfl, rfl⟩
theorem Non.of {m : Mp} {l : Lry} {t : Int} (h : ∀ j s, Jw m l (H4 m l) (bgn l) j s → s.tn ≠ t) : Non m l t := fun p c hp hrc => by
  obtain ⟨j, s, h1, rfl, _⟩ := hrc
  exact h j s h1 hp
theorem S5 {m : Mp} {l : Lry} {t : Int} : eT m [l] t = if eC m [l] = 0 then (if 0 ≤ t ∧ t < m.pk.length then 0 else 1) else eC m [l] := by
  unfold eT eC
  by_cases h1 : m.okB = true
  · rw [if_pos h1, if_pos h1, if_neg (show ¬ 8 < [l].length by simp)]
    split
    · rw [if_pos rfl]
    · rw [if_neg (show ¬ (91 : Int) = 0 by decide)]
  · rw [if_neg h1, if_neg h1, if_neg (show ¬ (90 : Int) = 0 by decide)]
theorem Sg {m : Mp} {l : Lry} {h h' : Int} (hh : ∀ r ∈ m.rs, h ≤ r.2.2.2.1 → h' ≤ r.2.2.2.1) {s s' : Std} {x : Leg} (hx : JI m x) (hg : go1 m (l.up h) s x = some s') : go1 m (l.up h') s x = some s' := by
  obtain ⟨a, ⟨b1, b2⟩, c, d, e⟩ := B5.1 hg
  have hk : x.1.toNat < m.rs.length := by have := hx.1; have := hx.2; omega
  have hm : AG m x.1 ∈ m.rs := by rw [Ju hk]; exact List.getElem_mem hk
  exact B5.2 ⟨a, ⟨hh _ hm b1, b2⟩, c, d, e⟩
theorem RL {m : Mp} {l : Lry} {h h' : Int} (hh : ∀ r ∈ m.rs, h ≤ r.2.2.2.1 → h' ≤ r.2.2.2.1) : ∀ {j : List Leg} {s s' : Std}, Jw m (l.up h) (H4 m (l.up h)) s j s' → Jw m (l.up h') (H4 m (l.up h')) s j s'
  | [], _, _, e => e
  | _ :: _, _, _, ⟨a, b, s1, c, d⟩ => ⟨a, b, s1, Sg hh a c, RL hh d⟩
theorem R5 {m : Mp} {l : Lry} {h h' t : Int} (hh : ∀ r ∈ m.rs, h ≤ r.2.2.2.1 → h' ≤ r.2.2.2.1) (hn : Non m (l.up h') t) : Non m (l.up h) t := fun p c hp hrc => by
  obtain ⟨j, s, h1, rfl, _⟩ := hrc
  exact hn _ _ hp ⟨j, s, RL hh h1, rfl, rfl⟩
theorem PL {h : Int} : ∀ (xs : List Int), (∃ x ∈ xs, h ≤ x) → ∃ y ∈ xs, h ≤ y ∧ ∀ x ∈ xs, h ≤ x → y ≤ x
  | [], ⟨x, hx, _⟩ => by cases hx
  | x :: xs, hex => by
    by_cases e : ∃ y ∈ xs, h ≤ y
    · obtain ⟨y, h1, h2, h3⟩ := PL xs e
      by_cases c : h ≤ x ∧ x < y
      · refine ⟨x, List.mem_cons_self .., c.1, fun z hz hhz => ?_⟩
        rcases List.mem_cons.1 hz with rfl | hz
        · exact Int.le_refl _
        · have := h3 z hz hhz; omega
      · refine ⟨y, List.mem_cons_of_mem _ h1, h2, fun z hz hhz => ?_⟩
        rcases List.mem_cons.1 hz with rfl | hz
        · omega
        · exact h3 z hz hhz
    · obtain ⟨z, hz, hhz⟩ := hex
      rcases List.mem_cons.1 hz with rfl | hz
      · refine ⟨z, List.mem_cons_self .., hhz, fun y hy hhy => ?_⟩
        rcases List.mem_cons.1 hy with rfl | hy
        · exact Int.le_refl _
        · exact absurd ⟨y, hy, hhy⟩ e
      · exact absurd ⟨z, hz, hhz⟩ e
theorem IY {m : Mp} {l : Lry} {h t : Int} (hft : l.fr ≠ t) (hn : ¬ Non m (l.up h) t) : ∃ y ∈ m.rs.map (fun r => r.2.2.2.1), h ≤ y ∧ ¬ Non m (l.up y) t := by
  have hex : ∃ x ∈ m.rs.map (fun r : Rdt => r.2.2.2.1), h ≤ x := by
    refine Classical.byContradiction fun hno => hn (Non.of fun j s hj e => ?_)
    match j, hj with
    | [], hj =>
      have hj : bgn (l.up h) = s := hj
      subst hj
      exact hft e
    | x :: j, ⟨hx, _, s1, hg, _⟩ =>
      have hk : x.1.toNat < m.rs.length := by have := hx.1; have := hx.2; omega
      obtain ⟨_, ⟨b1, _⟩, _⟩ := B5.1 hg
      refine hno ⟨_, List.mem_map.2 ⟨AG m x.1, ?_, rfl⟩, b1⟩
      rw [Ju hk]
      exact List.getElem_mem hk
  obtain ⟨y, h1, h2, h3⟩ := PL _ hex
  exact ⟨y, h1, h2, fun hno => hn (R5 (fun r hr hle => h3 _ (List.mem_map.2 ⟨r, hr, rfl⟩) hle) hno)⟩
theorem HgR.uniq {m : Mp} {l : Lry} {t h h' : Int} (a : HgR m l t h) (b : HgR m l t h') : h = h' := by
  rcases Int.lt_trichotomy h h' with c | c | c
  · exact absurd (a.2.2 _ b.1 c) b.2.1
  · exact c
  · exact absurd (b.2.2 _ a.1 c) a.2.1
theorem HgN.no {m : Mp} {l : Lry} {t h : Int} (a : HgN m l t) (b : HgR m l t h) : False := b.2.1 (a _ b.1)
section
variable {σ : Hp}
theorem S8 {A : Option Addr} {n : Nat} {xs : List TrT} {i : Int} {K : Int → Int → Int → Option Addr → Nat → Nat → Prop} (h : RdS sT σ A n xs) (hi : 0 ≤ i) (hn : i.toNat < xs.length) (hk : ∀ r : TrT, xs[i.toNat] = r → K r.1 r.2.1 r.2.2.1 r.2.2.2.1 r.2.2.2.2.1 r.2.2.2.2.2) :
    ix A n i 4 fun b a => ldI σ .i64 b a fun x1 => ldI σ .i64 b (a + 1) fun x2 => ldI σ .i64 b (a + 2) fun x3 => ldS σ b (a + 3) fun A n c => K x1 x2 x3 A n c := by
  refine Ga (ss := sT) h rfl hi hn fun b o hc => ?_
  exact AW (hc 0 (by decide)) (AW (hc 1 (by decide)) (AW (hc 2 (by decide)) (SF (hc 3 (by decide)) (hk _ rfl))))
theorem SG {A : Option Addr} {n : Nat} {xs : List TrT} {i : Int} {K : Int → Prop} (h : RdS sT σ A n xs) (hi : 0 ≤ i) (hn : i.toNat < xs.length) (hk : K xs[i.toNat].1) :
    ix A n i 4 fun b a => ldI σ .i64 b a K := by
  refine Ga (ss := sT) h rfl hi hn fun b o hc => ?_
  exact AW (hc 0 (by decide)) hk
theorem RW {A : Option Addr} {n : Nat} {xs : List Rdt} {i : Int} {K : Int → Prop} (h : RdS sR σ A n xs) (hi : 0 ≤ i) (hn : i.toNat < xs.length) (hk : K xs[i.toNat].2.2.2.1) :
    ix A n i 5 fun b a => ldI σ .i64 b (a + 3) K := by
  refine Ga (ss := sR) h rfl hi hn fun b o hc => ?_
  exact AW (hc 3 (by decide)) hk
set_option maxRecDepth 100000 in
theorem PA {w : MW} {m : Mp} {l : Lry} {t : Int} (h : MIn σ w m) (hm : BD m) (hl : A7 m l) : Ae Try.prog KO #[w.v, l.v, .int .i64 t] σ fun v σ' => ∃ s A n c b, v = .tuple #[tkV s A n c, .bool b] ∧ Hp.Sub σ σ' ∧ (b = true → ∃ js, RdS sJ σ' A n js ∧ Bst m l t (s.sn, js)) ∧ (b = false → Non m l t) := by
  refine Im _ _ _ _ _ _ _ _ _ _ _ _ _ _ _ ?_
  unfold D7
  refine Bj GF (Rl h hm hl) ?_
  rintro v σ2 ⟨A, n, c, xs, ts, s0, rfl, hs, ho, htr, hti, hcl⟩
  refine ⟨_, _, _, rfl, ?_⟩
  have hrd : RdS sT σ2 A n xs := ho.rd
  have hnx : n = xs.length := hrd.1
  have hs2 : Hp.Sub s0 σ2 := ho.sub
  have htr := htr.up hs2
  have hss := hs.trans hs2
  have hxl := htr.1
  have hl6 : ts.length ≤ 6012 := Nat.le_trans (hti.len hm hl) (EF hm hl)
  have rd : ∀ (k : Nat) (_ : k < ts.length) {K : Int → Int → Int → Option Addr → Nat → Nat → Prop}, (∀ A' n' c', RdS sJ σ2 A' n' ts[k].2 → K ts[k].1.tn ts[k].1.sn ts[k].1.dv A' n' c') → ix A n (k : Int) 4 fun b a => ldI σ2 .i64 b a fun x1 => ldI σ2 .i64 b (a + 1) fun x2 => ldI σ2 .i64 b (a + 2) fun x3 => ldS σ2 b (a + 3) fun A n c => K x1 x2 x3 A n c := by
    intro k hk K hK
    refine S8 hrd (by omega) (by simp; omega) fun r hr => ?_
    simp only [Int.toNat_natCast] at hr
    obtain ⟨A', n', c', e, hj⟩ := htr.2 k (by omega) hk
    rw [hr] at e
    subst e
    exact hK A' n' c' hj
  refine Ag fun J6 h6 => ?_
  refine ⟨fun q a i τ => ∃ k : Nat, q = ts.length - k ∧ i = k ∧ k ≤ ts.length ∧ τ = σ2 ∧ ((a = -1 ∧ ∀ j (_ : j < ts.length), j < k → ts[j].1.tn ≠ t) ∨ ∃ (z : Nat) (hz : z < ts.length), a = z ∧ ts[z].1.tn = t ∧ ∀ j (_ : j < ts.length), j < k → ts[j].1.tn = t → lef ts[z].a ts[j].a), ⟨_, 0, rfl, rfl, Nat.zero_le _, rfl, .inl ⟨rfl, fun j _ hj => absurd hj (Nat.not_lt_zero _)⟩⟩, ?_⟩
  rintro q a i τ ⟨k, rfl, rfl, hk, rfl, ha⟩ _
  refine A0 (fun hlt => ?_) (fun hge => ?_)
  · have hkl : k < ts.length := by omega
    refine Ag fun J22 h22 => ?_
    have k22 : ∀ a : Int, ((a = -1 ∧ ∀ j (_ : j < ts.length), j < k + 1 → ts[j].1.tn ≠ t) ∨ ∃ (z : Nat) (hz : z < ts.length), a = z ∧ ts[z].1.tn = t ∧ ∀ j (_ : j < ts.length), j < k + 1 → ts[j].1.tn = t → lef ts[z].a ts[j].a) → J22 a τ := by
      intro a ha
      rw [h22]
      intro _
      exact AT (by omega) (BS _ (by omega) ⟨k + 1, rfl, rfl, by omega, rfl, ha⟩)
    clear h22
    have lt1 : ∀ {j}, j < k + 1 → j ≠ k → j < k := fun a b => by omega
    refine Ag fun J29 h29 => ?_
    have kt : ts[k].1.tn = t → (∀ (z : Nat) (hz : z < ts.length), a = z → bef ts[k].a ts[z].a) → J29 true τ := by
      intro ht hb
      rw [h29]
      intro _
      refine FE (k22 _ (.inr ⟨k, hkl, rfl, ht, fun j hj hjk hjt => ?_⟩))
      by_cases e : j = k
      · subst e
        exact EB _
      · rcases ha with ⟨_, hn⟩ | ⟨z, hz, e1, _, hle⟩
        · exact absurd hjt (hn j hj (lt1 hjk e))
        · exact Gl (.inr (hb z hz e1)) (hle j hj (lt1 hjk e) hjt)
    have kf : (ts[k].1.tn = t → ∃ (z : Nat) (hz : z < ts.length), a = z ∧ lef ts[z].a ts[k].a) → J29 false τ := by
      intro hb
      rw [h29]
      intro _
      refine Ey (k22 _ ?_)
      rcases ha with ⟨e1, hn⟩ | ⟨z, hz, e1, ht, hle⟩
      · refine .inl ⟨e1, fun j hj hjk hjt => ?_⟩
        by_cases e : j = k
        · subst e
          obtain ⟨z, hz, e2, _⟩ := hb hjt
          omega
        · exact hn j hj (lt1 hjk e) hjt
      · refine .inr ⟨z, hz, e1, ht, fun j hj hjk hjt => ?_⟩
        by_cases e : j = k
        · subst e
          obtain ⟨z', hz', e2, hle2⟩ := hb hjt
          obtain rfl : z' = z := by omega
          exact hle2
        · exact hle j hj (lt1 hjk e) hjt
    clear h29
    refine SG hrd (by omega) (by simp; omega) ?_
    have e0 : (xs[((k : Int)).toNat]'(by simp; omega)).1 = ts[k].1.tn := by
      simp only [Int.toNat_natCast]
      obtain ⟨A', n', c', e, hj⟩ := htr.2 k (by omega) hkl
      rw [e]
    rw [e0]
    refine A0 (fun ht => ?_) (fun ht => kf fun e => absurd e ht)
    rcases ha with ⟨rfl, hn⟩ | ⟨z, hz, rfl, htz, hle⟩
    · refine A0 (fun _ => kt ht fun z hz e => by omega) (fun g => absurd (show (-1 : Int) < 0 by decide) g)
    · refine A0 (fun g => by omega) (fun _ => ?_)
      refine rd k hkl fun A1 n1 c1 hj1 => rd z hz fun A2 n2 c2 hj2 => ?_
      have hjl := (hti.mem_ok hm hl (List.getElem_mem hkl)).2
      have hbd := hti.bd _ (List.getElem_mem hkl)
      have hy := hl.y
      refine Bj Da (M5 (s := ts[k].1) (s' := ts[z].1) hj1 hj2 (by omega)) ?_
      rintro v τ3 ⟨bt, rfl, rfl, hbt⟩
      refine ⟨_, rfl, ?_⟩
      cases bt with
      | true =>
        refine kt ht fun z' hz' e => ?_
        obtain rfl : z' = z := by omega
        exact hbt.1 rfl
      | false =>
        refine kf fun _ => ⟨z, hz, rfl, JC.2 fun hb => ?_⟩
        have := hbt.2 hb
        cases this
  · obtain rfl : k = ts.length := by omega
    rw [h6]
    intro _
    rcases ha with ⟨rfl, hn⟩ | ⟨z, hz, rfl, htz, hle⟩
    · refine A0 (fun _ => Ax ⟨⟨0, 0, 0⟩, none, 0, 0, false, rfl, hss, fun e => (by cases e), fun _ => Non.of (hti.none hcl fun k hk => hn k hk hk)⟩) (fun g => absurd (show (-1 : Int) < 0 by decide) g)
    · refine A0 (fun g => by omega) (fun _ => ?_)
      refine rd z hz fun A1 n1 c1 hj1 => ?_
      refine Ax ⟨ts[z].1, A1, n1, c1, true, rfl, hss, fun _ => ⟨ts[z].2, hj1, hti.best hm hl hcl hz htz fun k hk e => hle k hk hk e⟩, fun e => by cases e⟩
theorem LR {w : MW} {m : Mp} {l : Lry} {t : Int} (h : MIn σ w m) (hp : m.pk.length ≤ 4294967296) (hr : m.rs.length ≤ 4294967296) :
    Ae Try.prog Ho #[w.v, l.v, .int .i64 t] σ fun v σ' => v = .int .i64 (eT m [l] t) ∧ σ' = σ := by
  refine FV _ _ _ _ _ _ _ _ _ _ _ _ _ _ _ ?_
  unfold CF
  have hpn := h.pn
  rw [S5]
  refine clI Gw (Qj h hp hr) (Br (fun e => Ax ⟨by rw [if_neg e], rfl⟩) (fun e => ?_))
  refine JD (w := w) (by omega) (fun g => BA (Ax ⟨?_, rfl⟩)) (fun g => BB (Ax ⟨?_, rfl⟩))
  · rw [if_pos e, if_pos (by rw [← hpn]; exact g)]
  · rw [if_pos e, if_neg (by rw [← hpn]; exact g)]
set_option maxRecDepth 100000 in
theorem NY {w : MW} {m : Mp} {l : Lry} {t : Int} (h : MIn σ w m) (hp : m.pk.length ≤ 4294967296) (hr : m.rs.length ≤ 4294967296) : Ae Try.prog Jp #[w.v, l.v, .int .i64 t] σ fun v σ' => Hp.Sub σ σ' ∧
    ((¬ eT m [l] t = 0 ∧ v = .tuple #[.int .i64 0, .int .i64 (eT m [l] t)]) ∨ (eT m [l] t = 0 ∧ ((HgN m l t ∧ v = .tuple #[.int .i64 0, .int .i64 3]) ∨ ∃ h, v = .tuple #[.int .i64 h, .int .i64 0] ∧ HgR m l t h))) := by
  refine G4 _ _ _ _ _ _ _ _ _ _ _ _ _ _ _ ?_
  unfold Dd
  have hrn := h.rn
  refine clI EI (LR h hp hr) (Br (fun e => Ax ⟨Hp.Sub.refl _, .inl ⟨e, rfl⟩⟩) (fun e => ?_))
  obtain ⟨hm, hl, _⟩ := JH e
  have hle : ∀ h ∈ hts m, h ≤ 1000 := fun h hh => (Dw hm hl hh).h.2
  refine A0 (fun hft => Ax ⟨Hp.Sub.refl _, .inr ⟨e, .inr ⟨1000, rfl, List.mem_cons_self .., fun hn => ?_, fun h' hh hlt => absurd (hle h' hh) (by omega)⟩⟩⟩) (fun hft => ?_)
  · exact hn (l.fr, 0) (0, 0) hft (Rc.bgn (l := l.up 1000))
  refine Ag fun J6 h6 => ?_
  refine ⟨fun q a i τ => ∃ k : Nat, q = m.rs.length - k ∧ i = k ∧ k ≤ m.rs.length ∧ Hp.Sub σ τ ∧ ((a = -1) ∨ (a ∈ hts m ∧ ¬ Non m (l.up a) t)) ∧ ∀ j (_ : j < m.rs.length), j < k → ¬ Non m (l.up m.rs[j].2.2.2.1) t → m.rs[j].2.2.2.1 ≤ a, ⟨_, 0, rfl, rfl, Nat.zero_le _, Hp.Sub.refl _, .inl rfl, fun j _ hj => absurd hj (Nat.not_lt_zero _)⟩, ?_⟩
  rintro q a i τ ⟨k, rfl, rfl, hk, hs, ha, hmx⟩ _
  refine A0 (fun hlt => ?_) (fun hge => ?_)
  · have hkl : k < m.rs.length := by omega
    refine Ag fun J16 h16 => ?_
    have k16 : ∀ (a' : Int) τ', Hp.Sub σ τ' → ((a' = -1) ∨ (a' ∈ hts m ∧ ¬ Non m (l.up a') t)) → a ≤ a' → (¬ Non m (l.up m.rs[k].2.2.2.1) t → m.rs[k].2.2.2.1 ≤ a') → J16 a' τ' := by
      intro a' τ' hs' h1 h2 h3
      rw [h16]
      intro _
      refine AT (by omega) (BS _ (by omega) ⟨k + 1, rfl, rfl, by omega, hs', h1, fun j hj hjk hn => ?_⟩)
      by_cases ej : j = k
      · subst ej
        exact h3 hn
      · exact Int.le_trans (hmx j hj (by omega) hn) h2
    have hmem : m.rs[k].2.2.2.1 ∈ hts m := List.mem_cons_of_mem _ (List.mem_map.2 ⟨_, List.getElem_mem hkl, rfl⟩)
    refine RW (h.up hs).r (by omega) (by simpa using hkl) ?_
    simp only [Int.toNat_natCast]
    generalize hx : m.rs[k].2.2.2.1 = x at hmem k16
    have hx0 := (Dw hm hl hmem).h.1
    refine Bj GJ (PA (l := l.up x) (t := t) (h.up hs) hm.ok (Dw hm hl hmem)) ?_
    rintro v σ24 ⟨s, A, n, c, b, rfl, hs2, h1, h2⟩
    refine ⟨_, _, _, _, _, _, _, rfl, Hx (fun eb => ?_) (fun eb => ?_)⟩
    · obtain ⟨js, _, hb⟩ := h1 eb
      by_cases c : x > a
      · rw [if_pos c]
        exact k16 x _ (hs.trans hs2) (.inr ⟨hmem, hb.nn⟩) (by omega) fun _ => Int.le_refl _
      · rw [if_neg c]
        exact k16 a _ (hs.trans hs2) ha (Int.le_refl _) fun _ => by omega
    · exact k16 a _ (hs.trans hs2) ha (Int.le_refl _) fun hn => absurd (h2 eb) hn
  · have hkp : k = m.rs.length := by omega
    subst hkp
    rw [h6]
    intro _
    have hmx2 : ∀ h ∈ hts m, ¬ Non m (l.up h) t → h ≤ a := fun h hh hn => by
      obtain ⟨y, h1, h2, h3⟩ := IY hft hn
      obtain ⟨r, hr, rfl⟩ := List.mem_map.1 h1
      obtain ⟨j, hj, rfl⟩ := List.mem_iff_getElem.1 hr
      have := hmx j hj hj h3
      omega
    have nn : ∀ h ∈ hts m, a < h → Non m (l.up h) t := fun h hh hlt => Classical.byContradiction fun hn => by
      have := hmx2 h hh hn
      omega
    rcases ha with rfl | ⟨ha1, ha2⟩
    · refine A0 (fun _ => Ax ⟨hs, .inr ⟨e, .inl ⟨fun h hh => nn h hh ?_, rfl⟩⟩⟩) (fun g => absurd (show (-1 : Int) < 0 by decide) g)
      have := (Dw hm hl hh).h.1
      have : 0 ≤ h := this
      omega
    · have := (Dw hm hl ha1).h.1
      have : 0 ≤ a := this
      exact A0 (fun g => by omega) (fun _ => Ax ⟨hs, .inr ⟨e, .inr ⟨a, rfl, ha1, ha2, nn⟩⟩⟩)
end
end Go.Proofs.Ytkdjkkimngeloaa
