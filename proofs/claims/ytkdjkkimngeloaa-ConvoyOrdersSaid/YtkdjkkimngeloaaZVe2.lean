/- Trimmed by wip/trim.py to what this claim rests on. -/
import Derived.Test.YtkdjkkimngeloaaZVe1
import Derived.Test.YtkdjkkimngeloaaZVa5
import Derived.Test.YtkdjkkimngeloaaZVb9
namespace Go.Proofs.Ytkdjkkimngeloaa
open Go.RowKit
theorem SA {x : Leg} {a b : List Leg} : EU (x :: a) (x :: b) ↔ EU a b := Jv (a := [x])
theorem Sr {x y : Leg} {a b : List Leg} (h : x.1 ≠ y.1) : EU (x :: a) (y :: b) ↔ x.1 < y.1 := by
  constructor
  · rintro (h1 | ⟨h1, _⟩)
    · exact h1
    · exact absurd h1 h
  · exact fun h1 => .inl h1
theorem QM {x y : Leg} {a b : List Leg} (h1 : x.1 = y.1) (h : x.2 ≠ y.2) : EU (x :: a) (y :: b) ↔ x.2 < y.2 := by
  constructor
  · rintro (h2 | ⟨_, h2 | ⟨h2, _⟩⟩)
    · omega
    · exact h2
    · exact absurd h2 h
  · exact fun h2 => .inr ⟨h1, .inl h2⟩
theorem SR {a b : Trp} (h : a.1 ≠ b.1) : bef a b ↔ a.1 < b.1 := by
  constructor
  · rintro (h1 | ⟨h1, _⟩)
    · exact h1
    · exact absurd h1 h
  · exact fun h1 => .inl h1
theorem Ti {a b : Trp} (h1 : a.1 = b.1) (h : a.2.length ≠ b.2.length) : bef a b ↔ a.2.length < b.2.length := by
  constructor
  · rintro (h2 | ⟨_, h2 | ⟨h2, _⟩⟩)
    · omega
    · exact h2
    · exact absurd h2 h
  · exact fun h2 => .inr ⟨h1, .inl h2⟩
theorem TQ {a b : Trp} (h1 : a.1 = b.1) (h : a.2.length = b.2.length) : bef a b ↔ EU a.2 b.2 := by
  constructor
  · rintro (h2 | ⟨_, h2 | ⟨_, h2⟩⟩)
    · omega
    · omega
    · exact h2
  · exact fun h2 => .inr ⟨h1, .inr ⟨h, h2⟩⟩
abbrev sT : List Sh := [.int .i64, .int .i64, .int .i64, .slc]
abbrev TrT := Int × Int × Int × (Option Addr × Nat × Nat)
abbrev tkV (s : Std) (A : Option Addr) (n c : Nat) : Value := .agg #[.int .i64 s.tn, .int .i64 s.sn, .int .i64 s.dv, .slice A n c]
section
variable {σ : Hp}
set_option maxRecDepth 20000 in
theorem Pv {s s' : Std} {A A' : Option Addr} {n c n' c' : Nat} {j j' : List Leg} (hj : RdS sJ σ A n j) (hj' : RdS sJ σ A' n' j') (hl : j.length ≤ 4294967296) :
    Ag Try.prog M5 #[tkV s A n c, tkV s' A' n' c'] σ fun v σ' => ∃ t, v = .bool t ∧ σ' = σ ∧ (t = true ↔ bef (s.sn, j) (s'.sn, j')) := by
  refine JT _ _ _ _ _ _ _ _ _ _ _ _ _ _ ?_
  unfold EH
  have hn := hj.lenJ
  have hn' := hj'.lenJ
  refine Bj (fun h1 => Av ⟨_, rfl, rfl, ?_⟩) (fun h1 => ?_)
  · rw [decide_eq_true_iff, SR h1]
  refine Bj (fun h2 => Av ⟨_, rfl, rfl, ?_⟩) (fun h2 => ?_)
  · rw [decide_eq_true_iff, Ti h1 (by show j.length ≠ j'.length; omega)]
    show _ ↔ j.length < j'.length
    omega
  have hlen : j.length = j'.length := by omega
  have hb : bef (s.sn, j) (s'.sn, j') ↔ EU j j' := TQ h1 hlen
  refine Ad fun J3 h3 => ?_
  refine ⟨fun q i τ => ∃ k : Nat, q = j.length - k ∧ i = k ∧ k ≤ j.length ∧ τ = σ ∧ (EU j j' ↔ EU (j.drop k) (j'.drop k)), ⟨_, 0, rfl, rfl, by omega, rfl, Iff.rfl⟩, ?_⟩
  rintro q i τ ⟨k, rfl, rfl, hk, rfl, hx⟩ _
  refine AK (fun hlt => ?_) (fun hge => ?_)
  · have hkl : k < j.length := by omega
    have hkl' : k < j'.length := by omega
    have e1 : j.drop k = j[k] :: j.drop (k + 1) := List.drop_eq_getElem_cons hkl
    have e2 : j'.drop k = j'[k] :: j'.drop (k + 1) := List.drop_eq_getElem_cons hkl'
    rw [e1, e2] at hx
    have a0 : ∀ {K : Int → Prop}, K j[k].1 → ix A n (k : Int) 2 fun b a => ldI τ .i64 b a K := fun hk => Qh hj (by omega) (by simpa using hkl) (by simpa using hk)
    have a1 : ∀ {K : Int → Prop}, K j[k].2 → ix A n (k : Int) 2 fun b a => ldI τ .i64 b (a + 1) K := fun hk => QQ hj (by omega) (by simpa using hkl) (by simpa using hk)
    have b0 : ∀ {K : Int → Prop}, K j'[k].1 → ix A' n' (k : Int) 2 fun b a => ldI τ .i64 b a K := fun hk => Qh hj' (by omega) (by simpa using hkl') (by simpa using hk)
    have b1 : ∀ {K : Int → Prop}, K j'[k].2 → ix A' n' (k : Int) 2 fun b a => ldI τ .i64 b (a + 1) K := fun hk => QQ hj' (by omega) (by simpa using hkl') (by simpa using hk)
    generalize j[k] = x at hx a0 a1
    generalize j'[k] = y at hx b0 b1
    refine a0 (b0 (Bj (fun g => a0 (b0 (Av ⟨_, rfl, rfl, ?_⟩))) (fun g => a1 (b1 (Bj (fun g2 => a1 (b1 (Av ⟨_, rfl, rfl, ?_⟩))) (fun g2 => AL (by omega) (Bf _ (by omega) ⟨k + 1, rfl, rfl, by omega, rfl, ?_⟩)))))))
    · rw [decide_eq_true_iff, hb, hx, Sr g]
    · rw [decide_eq_true_iff, hb, hx, QM g g2]
    · have : x = y := Prod.ext g g2
      subst this
      rw [hx, SA]
  · rw [h3]
    intro _
    refine Av ⟨_, rfl, rfl, ?_⟩
    rw [hb, hx, List.drop_eq_nil_of_le (by omega)]
    constructor
    · intro e; cases e
    · intro e; exact e.elim
def TsR (τ : Hp) (xs : List TrT) (ts : List Trk) : Prop := xs.length = ts.length ∧ ∀ i (h : i < xs.length) (h' : i < ts.length), ∃ A n c, xs[i] = (ts[i].1.tn, ts[i].1.sn, ts[i].1.dv, (A, n, c)) ∧ RdS sJ τ A n ts[i].2
theorem TsR.up {τ τ' : Hp} {xs : List TrT} {ts : List Trk} (h : TsR τ xs ts) (hs : Hp.Sub τ τ') : TsR τ' xs ts := by
  refine ⟨h.1, fun i h1 h2 => ?_⟩
  obtain ⟨A, n, c, a, b⟩ := h.2 i h1 h2
  exact ⟨A, n, c, a, b.sub hs⟩
theorem TsR.lat {τ : Hp} {xs : List TrT} {ts : List Trk} (h : TsR τ xs ts) {k : Nat} (hk : k < ts.length) {K : TrT → Prop} (hK : ∀ A n c, RdS sJ τ A n ts[k].2 → K (ts[k].1.tn, ts[k].1.sn, ts[k].1.dv, (A, n, c))) : 0 ≤ (k : Int) ∧ (k : Int) < ((List.length xs : Nat) : Int) ∧ Go.Proofs.Ytkdjkkimngeloaa.lat xs ((k : Int).toNat) K := by
  have hx := h.1
  refine ⟨by omega, by omega, GP (show ((k : Int)).toNat < xs.length by rw [Int.toNat_natCast]; omega) ?_⟩
  obtain ⟨A, n, c, a, b⟩ := h.2 k (by omega) hk
  simp only [Int.toNat_natCast]
  rw [a]
  exact hK A n c b
theorem TsR.push {τ : Hp} {xs : List TrT} {ts : List Trk} {u : Trk} {A : Option Addr} {n c : Nat} (h : TsR τ xs ts) (hu : RdS sJ τ A n u.2) : TsR τ (xs ++ [(u.1.tn, u.1.sn, u.1.dv, (A, n, c))]) (ts ++ [u]) := by
  refine ⟨by simp [h.1], fun i h1 h2 => ?_⟩
  by_cases e : i < xs.length
  · have e' : i < ts.length := by rw [← h.1]; exact e
    obtain ⟨A, n, c, a, b⟩ := h.2 i e e'
    refine ⟨A, n, c, ?_, ?_⟩
    · rw [List.getElem_append_left e, List.getElem_append_left e']
      exact a
    · rw [List.getElem_append_left e']
      exact b
  · have e1 : i = ts.length := by
      have : i < ts.length + 1 := by simpa using h2
      have := h.1
      omega
    subst e1
    refine ⟨A, n, c, ?_, ?_⟩
    · rw [List.getElem_append_right (by rw [h.1]; exact Nat.le_refl _), List.getElem_append_right (Nat.le_refl _)]
      simp
    · rw [List.getElem_append_right (Nat.le_refl _)]
      simpa using hu
theorem TsR.set {τ : Hp} {xs : List TrT} {ts : List Trk} {u : Trk} {A : Option Addr} {n c k : Nat} (h : TsR τ xs ts) (hu : RdS sJ τ A n u.2) : TsR τ (xs.set k (u.1.tn, u.1.sn, u.1.dv, (A, n, c))) (ts.set k u) := by
  refine ⟨by simp [h.1], fun i h1 h2 => ?_⟩
  by_cases e : k = i
  · subst e
    exact ⟨A, n, c, by rw [List.getElem_set_self, List.getElem_set_self], by rw [List.getElem_set_self]; exact hu⟩
  · obtain ⟨A, n, c, a, b⟩ := h.2 i (by simpa using h1) (by simpa using h2)
    exact ⟨A, n, c, by rw [List.getElem_set_ne e, List.getElem_set_ne e]; exact a, by rw [List.getElem_set_ne e]; exact b⟩
end
theorem TI.pushPot {m : Mp} {l : Lry} {ts : List Trk} {U : List (Plc × Trp)} {u : Trk} (hu : (u.p, u.a) ∈ U) (hn : ∀ t ∈ ts, t.p ≠ u.p) : pot U (ts ++ [u]) < pot U ts :=
  Tr (fun _ _ h => h.push) hu ⟨u, by simp, rfl, FY _⟩ fun ⟨t, ht, hp, _⟩ => hn t ht hp
theorem TI.setPot {m : Mp} {l : Lry} {ts : List Trk} {U : List (Plc × Trp)} {u : Trk} {k : Nat} (h : TI m l ts) (hu : (u.p, u.a) ∈ U) (hk : k < ts.length) (hp : u.p = ts[k].p) (hb : bef u.a ts[k].a) : pot U (ts.set k u) < pot U ts := by
  refine Tr (fun _ _ h => h.set hk hp hb) hu ⟨u, List.mem_iff_getElem.2 ⟨k, by simpa using hk, by simp⟩, rfl, FY _⟩ fun ⟨t, ht, hp2, hle⟩ => ?_
  obtain ⟨i, hi, rfl⟩ := List.mem_iff_getElem.1 ht
  have e : i = k := by
    have hn := List.pairwise_iff_getElem.1 h.nd
    rcases Nat.lt_trichotomy i k with a | a | a
    · exact absurd (by rw [List.getElem_map, List.getElem_map]; exact hp2.trans hp) (hn i k (by simpa using hi) (by simpa using hk) a)
    · exact a
    · exact absurd (by rw [List.getElem_map, List.getElem_map]; exact (hp2.trans hp).symm) (hn k i (by simpa using hk) (by simpa using hi) a)
  subst e
  exact LS.1 hle hb
structure PS (σ : Hp) (m : Mp) (l : Lry) (U : List (Plc × Trp)) (P0 : Nat) (k r b : Nat) (t : Bool) (τ : Hp) (xs : List TrT) (ts : List Trk) : Prop where
  sub : Hp.Sub σ τ
  tr : TsR τ xs ts
  ti : TI m l ts
  le : pot U ts ≤ P0
  lt : t = true → pot U ts < P0
  cl : t = false → Cl3 m l ts k r b
abbrev tkO (s : Std) (A : Option Addr) (n c : Nat) : Obj := .cells #[.int .i64 s.tn, .int .i64 s.sn, .int .i64 s.dv, .slice A n c] 90 (0, 0)
section
variable {σ : Hp}
set_option maxRecDepth 100000 in
theorem Uh {w : MW} {m : Mp} {l : Lry} (h : MIn σ w m) (hm : BE m) (hl : Bi m l) : Ag Try.prog Na #[w.v, l.v] σ fun v σ' => ∃ A n c, ∃ xs : List TrT, ∃ ts s, v = .slice A n c ∧ Hp.Sub σ s ∧ Aj 90 sT s A n c xs σ' ∧ TsR s xs ts ∧ TI m l ts ∧ Cl3 m l ts ts.length 0 0 := by
  refine KL _ _ _ _ _ _ _ _ _ _ _ _ _ _ ?_
  unfold Fq
  have hrn := h.rn
  have hk30 := hm.k
  have hy := hl.y
  have hrs := hl.s
  have hdr := hl.d
  obtain ⟨U, hU⟩ := UA 30 (l.rdy.toNat + 1000 * 6012 + 1000)
  have hlen : ∀ {ts}, TI m l ts → ts.length ≤ 6012 := fun ht => Nat.le_trans (ht.len hm hl) (FN hm hl)
  refine Ad fun J3 h3 => ?_
  refine ⟨fun q t xs τ => ∃ ts, q = 2 * pot U ts + (if t = true then 1 else 0) ∧ Hp.Sub σ τ ∧ TsR τ xs ts ∧ TI m l ts ∧ (t = false → Cl3 m l ts ts.length 0 0), ⟨_, [(bgn l, [])], rfl, Hp.Sub.refl _, ⟨rfl, fun i h1 h2 => ?_⟩, TI.init, fun e => by cases e⟩, ?_⟩
  · have e : i = 0 := by
      have : i < 1 := h1
      omega
    subst e
    exact ⟨none, 0, 0, rfl, rfl, .inl rfl⟩
  rintro q t xs τ ⟨ts0, rfl, hs0, htr0, hti0, hcl0⟩ _
  refine I2 (fun et => ?_) (fun et => ?_)
  · subst et
    refine ⟨fun q t i xs τ => ∃ (k : Nat) (ts : List Trk), q = 6013 - k ∧ i = k ∧ k ≤ ts.length ∧ PS σ m l U (pot U ts0) k 0 0 t τ xs ts, ⟨_, 0, ts0, rfl, rfl, Nat.zero_le _, ⟨hs0, htr0, hti0, Nat.le_refl _, fun e => (by cases e), fun _ => Cl3.zero⟩⟩, ?_⟩
    clear hs0 htr0 hti0 hcl0 xs τ
    rintro q t i xs τ ⟨k, ts, rfl, rfl, hk, hp⟩ _
    have hxl := hp.tr.1
    have hl6 := hlen hp.ti
    refine AK (fun hlt => ?_) (fun hge => ?_)
    · have hkl : k < ts.length := by omega
      refine Ad fun J22 h22 => ?_
      have k22 : ∀ t xs τ ts, k < ts.length → PS σ m l U (pot U ts0) (k + 1) 0 0 t τ xs ts → J22 t xs τ := by
        intro t xs τ ts hkl hp
        rw [h22]
        intro _
        exact AL (by omega) (Bf _ (by omega) ⟨k + 1, ts, rfl, rfl, hkl, hp⟩)
      clear h22
      refine ⟨fun q t i xs τ => ∃ (r : Nat) (ts : List Trk), q = m.rs.length - r ∧ i = r ∧ r ≤ m.rs.length ∧ k < ts.length ∧ PS σ m l U (pot U ts0) k r 0 t τ xs ts, ⟨_, 0, ts, rfl, rfl, Nat.zero_le _, hkl, hp⟩, ?_⟩
      clear hp hkl hxl hl6 hlt hk ts
      rintro q t i xs τ ⟨r, ts, rfl, rfl, hr, hkl, hp⟩ _
      refine AK (fun hlt => ?_) (fun hge => ?_)
      · have hrl : r < m.rs.length := by omega
        refine Ad fun J37 h37 => ?_
        have k37 : ∀ t xs τ ts, k < ts.length → PS σ m l U (pot U ts0) k (r + 1) 0 t τ xs ts → J37 t xs τ := by
          intro t xs τ ts hkl hp
          rw [h37]
          intro _
          exact AL (by omega) (Bf _ (by omega) ⟨r + 1, ts, rfl, rfl, hrl, hkl, hp⟩)
        clear h37
        refine ⟨fun q t i xs τ => ∃ (b : Nat) (ts : List Trk), q = 2 - b ∧ i = b ∧ b ≤ 2 ∧ k < ts.length ∧ PS σ m l U (pot U ts0) k r b t τ xs ts, ⟨_, 0, ts, rfl, rfl, Nat.zero_le _, hkl, hp⟩, ?_⟩
        clear hp hkl hlt hr ts
        rintro q t i xs τ ⟨b, ts, rfl, rfl, hb, hkl, hp⟩ _
        have hxl := hp.tr.1
        have hl6 := hlen hp.ti
        refine AK (fun hlt => ?_) (fun hge => ?_)
        · have hb2 : b < 2 := by omega
          refine Ad fun J52 h52 => ?_
          have k52 : ∀ t xs τ ts, k < ts.length → PS σ m l U (pot U ts0) k r (b + 1) t τ xs ts → J52 xs t τ := by
            intro t xs τ ts hkl hp
            rw [h52]
            intro _
            exact AL (by omega) (Bf _ (by omega) ⟨b + 1, ts, rfl, rfl, by omega, hkl, hp⟩)
          clear h52
          have hmem : ts[k] ∈ ts := List.getElem_mem hkl
          obtain ⟨hok, hjl⟩ := hp.ti.mem_ok hm hl hmem
          have hbd := hp.ti.bd _ hmem
          have hst := fun (s' : Std) => hp.ti.step hm hl hmem (r := (r : Int)) hb2 ⟨by omega, by omega⟩ (s' := s')
          have hcov : ∀ {ts'}, Cl3 m l ts' k r b → Clo m l ts' k r b → Cl3 m l ts' k r (b + 1) := fun h1 h2 => h1.next h2
          refine hp.tr.lat hkl fun A n c hjr => ?_
          generalize htk : ts[k] = tk at hjr hmem hok hjl hbd hst ⊢
          have hsn := hok.n
          have hdv := hok.d
          have hbr : 0 ≤ (b : Int) * l.rst ∧ (b : Int) * l.rst ≤ 500 := by
            rcases (show b = 0 ∨ b = 1 by omega) with rfl | rfl
            · rw [show ((0 : Nat) : Int) * l.rst = 0 by simp]; omega
            · rw [show ((1 : Nat) : Int) * l.rst = l.rst by simp]; omega
          refine AL (by omega) (AL (by show _ ≤ tk.1.sn + _ ∧ tk.1.sn + _ ≤ _; omega) ?_)
          refine AV Js (Wj (l := l) (s := tk.1) (x := E2 l tk.1 r b) (h.up hp.sub) hm ⟨by show (0 : Int) ≤ (r : Int); omega, by show (r : Int) < _; omega⟩ hok.t ⟨by omega, by omega⟩ ⟨hdv.1, by omega⟩ ⟨by show 0 ≤ tk.1.sn + (b : Int) * l.rst; omega, by show tk.1.sn + (b : Int) * l.rst ≤ _; omega⟩) ?_
          rintro v τ1 ⟨s1, ok, rfl, rfl, hg1, hg2⟩
          refine ⟨_, _, _, _, rfl, Hn (fun e => k52 _ _ _ ts hkl ⟨hp.sub, hp.tr, hp.ti, hp.le, hp.lt, fun e2 => hcov (hp.cl e2) fun hh s' hs' => ?_⟩) (fun e => ?_)⟩
          · rw [htk, hg2 e] at hs'
            cases hs'
          have hgo := hg1 e
          obtain ⟨hu1, hu2, hu3⟩ := hst _ hgo
          clear hg1 hg2
          refine Ad fun J69 h69 => ?_
          have k69 : ∀ bb A' n' c' τ2, τ2 bb = some (tkO s1 A' n' c', true) → RdS sJ τ2 A' n' (tk.2 ++ [E2 l tk.1 r b]) → Hp.Sub τ1 τ2 → J69 (some ⟨bb, 0, none⟩) τ2 := by
            intro bb A' n' c' τ2 gbb hrd hsub
            rw [h69]
            clear h69 J69
            intro _
            have htr2 := hp.tr.up hsub
            refine Ad fun J73 h73 => ?_
            have k73 : ∀ kk : Nat, kk ≤ ts.length → (kk = ts.length → ∀ t ∈ ts, t.p ≠ (s1.tn, s1.dv)) → (∀ hh : kk < ts.length, ts[kk].p = (s1.tn, s1.dv)) → J73 kk τ2 := by
              intro kk hkk hno hyes
              rw [h73]
              intro _
              have hinU := TI.inU hm hl hU hl6 (u := (s1, tk.2 ++ [E2 l tk.1 r b])) hu1 hu3
              refine AK (fun ek => ?_) (fun ek => ?_)
              · refine AN (Ba gbb rfl (Ba gbb rfl (Ba gbb rfl (CP gbb rfl (Bb (show xs.length + 1 ≤ _ by omega) ?_)))))
                have hn := hno (by omega)
                have hpot := TI.pushPot (m := m) (l := l) hinU hn
                have hle := hp.le
                exact k52 _ _ _ (ts ++ [(s1, tk.2 ++ [E2 l tk.1 r b])]) (by simp; omega) ⟨hp.sub.trans hsub, htr2.push (u := (s1, tk.2 ++ [E2 l tk.1 r b])) hrd, hp.ti.push hu1 hu3 hn, by omega, fun _ => by omega, fun e => by cases e⟩
              · have hkk2 : kk < ts.length := by omega
                have hpl := hyes hkk2
                refine AN (Ba gbb rfl (Ba gbb rfl (Ba gbb rfl (CP gbb rfl (htr2.lat hkk2 fun A2 n2 c2 hj2 => ?_)))))
                refine AV DU (Pv (s := s1) (s' := ts[kk].1) hrd hj2 (by rw [List.length_append, List.length_singleton]; omega)) ?_
                rintro v τ3 ⟨bt, rfl, rfl, hbt⟩
                refine ⟨_, rfl, I2 (fun eb => ?_) (fun eb => ?_)⟩
                · refine AN (Ba gbb rfl (Ba gbb rfl (Ba gbb rfl (CP gbb rfl (htr2.lat hkk2 fun A3 n3 c3 _ => ?_)))))
                  rw [Int.toNat_natCast]
                  have hbf : bef (Trk.a (s1, tk.2 ++ [E2 l tk.1 r b])) ts[kk].a := hbt.1 eb
                  have hpot := hp.ti.setPot hinU hkk2 hpl.symm hbf
                  have hle := hp.le
                  exact k52 _ _ _ (ts.set kk (s1, tk.2 ++ [E2 l tk.1 r b])) (by simpa using hkl) ⟨hp.sub.trans hsub, htr2.set (u := (s1, tk.2 ++ [E2 l tk.1 r b])) hrd, hp.ti.set hkk2 hu1 hpl.symm hbf, by omega, fun _ => by omega, fun e => by cases e⟩
                · refine k52 _ _ _ ts hkl ⟨hp.sub.trans hsub, htr2, hp.ti, hp.le, hp.lt, fun e2 => hcov (hp.cl e2) fun hh s' hs' => ?_⟩
                  rw [htk] at hs' ⊢
                  rw [hgo] at hs'
                  cases hs'
                  refine ⟨ts[kk], List.getElem_mem hkk2, hpl, LS.2 fun hbf => ?_⟩
                  have := hbt.2 hbf
                  rw [eb] at this
                  cases this
            clear h73
            refine ⟨fun q i τ => ∃ kk : Nat, q = ts.length + 1 - kk ∧ i = kk ∧ kk ≤ ts.length ∧ τ = τ2 ∧ ∀ j (hh : j < ts.length), j < kk → ts[j].p ≠ (s1.tn, s1.dv), ⟨_, 0, rfl, rfl, Nat.zero_le _, rfl, fun j _ hh => absurd hh (Nat.not_lt_zero _)⟩, ?_⟩
            rintro q i τ3 ⟨kk, rfl, rfl, hkk, rfl, hno⟩ _
            refine Ad fun J105 h105 => Ad fun J111 h111 => ?_
            have kt : ∀ hh : kk < ts.length, ts[kk].p ≠ (s1.tn, s1.dv) → J111 true τ3 := by
              intro hh hne
              rw [h111]
              intro _
              refine Ef ?_
              rw [h105]
              intro _
              refine AL (by omega) (Bf _ (by omega) ⟨kk + 1, rfl, rfl, by omega, rfl, fun j hj hlt => ?_⟩)
              rcases Nat.lt_or_ge j kk with a | a
              · exact hno j hj a
              · obtain rfl : j = kk := by omega
                exact hne
            have kf : (∀ hh : kk < ts.length, ts[kk].p = (s1.tn, s1.dv)) → J111 false τ3 := by
              intro hyes
              rw [h111]
              intro _
              refine Dw (k73 kk hkk (fun e t ht => ?_) hyes)
              obtain ⟨j, hj, rfl⟩ := List.mem_iff_getElem.1 ht
              exact hno j hj (by omega)
            refine AK (fun hlt2 => ?_) (fun hge2 => kf fun hh => absurd hh (by omega))
            have hkk2 : kk < ts.length := by omega
            refine htr2.lat hkk2 fun A2 n2 c2 _ => ?_
            refine Bj (fun g => kt hkk2 fun e => g (congrArg Prod.fst e)) (fun g => htr2.lat hkk2 fun A3 n3 c3 _ => ?_)
            by_cases g2 : ts[kk].1.dv = s1.dv
            · have : (!decide (ts[kk].1.dv = s1.dv)) = false := by rw [decide_eq_true g2]; rfl
              show J111 (!decide (ts[kk].1.dv = s1.dv)) τ3
              rw [this]
              exact kf fun _ => Prod.ext g g2
            · have : (!decide (ts[kk].1.dv = s1.dv)) = true := by rw [decide_eq_false g2]; rfl
              show J111 (!decide (ts[kk].1.dv = s1.dv)) τ3
              rw [this]
              exact kt hkk2 fun e => g2 (congrArg Prod.snd e)
          clear h69
          have hjl2 : tk.2.length + 1 ≤ 4294967296 := by omega
          have one : AO (([] : List Leg) ++ tk.2).length.succ (exl 60 sJ ((([] : List Leg) ++ tk.2) ++ ([E2 l tk.1 r b] : List Leg)) τ1 fun A116 l116 c116 σ117 => bx σ117 (.cells #[.int .i64 s1.tn, .int .i64 s1.sn, .int .i64 s1.dv, .slice A116 l116 c116] 90) fun b118 σ119 => J69 (some ⟨b118, 0, none⟩) σ119) := by
            refine Bb (by show tk.2.length + 1 ≤ _; omega) ?_
            intro A' n' c' τ2 ho bb nb
            have hB : Blk bb (tkO s1 A' n' c') τ2 (τ2.ins bb (tkO s1 A' n' c')) := ⟨nb, rfl⟩
            exact k69 bb A' n' c' _ hB.get (ho.rd.sub hB.sub) (ho.sub.trans hB.sub)
          have r0 : ∀ {p : Prop}, p → AO (List.length ([] : List Leg) + List.length tk.2) p := fun hp => Bb (by show 0 + tk.2.length ≤ _; omega) hp
          exact ⟨⟨⟨tk.2, hjr, r0 one⟩, ⟨tk.2, hjr, r0 one⟩⟩, ⟨tk.2, hjr, r0 ⟨one, one⟩⟩, ⟨tk.2, hjr, r0 one⟩, ⟨tk.2, hjr, r0 ⟨one, one⟩⟩⟩
        · obtain rfl : b = 2 := by omega
          exact k37 _ _ _ ts hkl ⟨hp.sub, hp.tr, hp.ti, hp.le, hp.lt, fun e => (hp.cl e).road⟩
      · obtain rfl : r = m.rs.length := by omega
        exact k22 _ _ _ ts hkl ⟨hp.sub, hp.tr, hp.ti, hp.le, hp.lt, fun e => (hp.cl e).trip⟩
    · obtain rfl : k = ts.length := by omega
      refine Bf (2 * pot U ts + (if t = true then 1 else 0)) ?_ ⟨ts, rfl, hp.sub, hp.tr, hp.ti, hp.cl⟩
      have h1 := hp.le
      have h2 := hp.lt
      cases t with
      | true =>
        have := h2 rfl
        simp only [if_true]
        omega
      | false =>
        simp only [if_true, Bool.false_eq_true, if_false]
        omega
  · subst et
    rw [h3]
    intro _ A n c σ6 ho
    exact Av ⟨A, n, c, xs, ts0, τ, rfl, hs0, ho, htr0, hti0, hcl0 rfl⟩
end
end Go.Proofs.Ytkdjkkimngeloaa
