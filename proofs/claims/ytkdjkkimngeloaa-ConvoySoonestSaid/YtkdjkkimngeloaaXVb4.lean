/- Trimmed by wip/trim.py to what this claim rests on. -/
import Derived.Test.YtkdjkkimngeloaaXVb3
namespace Go.Proofs.Ytkdjkkimngeloaa
open Go.RowKit
section
variable {σ : Hp}
abbrev bx2 (b : Nat) (x y : Int) : Rel := Blk b (.cells #[.int .i64 x, .int .i64 y] 132 (0, 0))
theorem bx2.ld0 {b : Nat} {x y : Int} {σ' : Hp} {K : Int → Prop} (h : bx2 b x y σ σ') (hk : K x) : ldI σ' .i64 b 0 K := A0 h.get rfl hk
theorem bx2.ld1 {b : Nat} {x y : Int} {σ' : Hp} {K : Int → Prop} (h : bx2 b x y σ σ') (hk : K y) : ldI σ' .i64 b (0 + 1) K := A0 h.get rfl hk
theorem bx2.st0 {b : Nat} {x y v : Int} {σ' : Hp} {K : Hp → Prop} (h : bx2 b x y σ σ') (hk : ∀ σ2, bx2 b v y σ σ2 → K σ2) : st σ' b 0 (.int .i64 v) K := by
  obtain ⟨w, h2, _⟩ := h.st (Hp.Sub.refl _) (k := 0) (show (0 : Nat) < 2 by omega) (.int .i64 v)
  exact ⟨w, hk _ h2⟩
theorem bx2.st1 {b : Nat} {x y v : Int} {σ' : Hp} {K : Hp → Prop} (h : bx2 b x y σ σ') (hk : ∀ σ2, bx2 b x v σ σ2 → K σ2) : st σ' b (0 + 1) (.int .i64 v) K := by
  obtain ⟨w, h2, _⟩ := h.st (Hp.Sub.refl _) (k := 1) (show (1 : Nat) < 2 by omega) (.int .i64 v)
  exact ⟨w, hk _ h2⟩
theorem Blk.sub {b : Nat} {o : Obj} {σ σ' : Hp} (h : Blk b o σ σ') : Hp.Sub σ σ' := by
  obtain ⟨h1, rfl⟩ := h
  exact Hp.Sub.ins _ h1
theorem M4 {A : Option Addr} {n : Nat} {xs : List Leg} {i : Int} {K : Int → Int → Prop} (h : RdS sJ σ A n xs) (hi : 0 ≤ i) (hn : i.toNat < xs.length) (hk : ∀ x : Leg, xs[i.toNat] = x → K x.1 x.2) :
    ix A n i 2 fun b a => ldI σ .i64 b a fun x1 => ldI σ .i64 b (a + 1) fun x2 => K x1 x2 := QR h hi hn (hk _ rfl)
theorem ML {A : Option Addr} {n : Nat} {xs : List Rdt} {i : Int} {K : Int → Int → Int → Int → Int → Prop} (h : RdS sR σ A n xs) (hi : 0 ≤ i) (hn : i.toNat < xs.length) (hk : ∀ r : Rdt, xs[i.toNat] = r → K r.1 r.2.1 r.2.2.1 r.2.2.2.1 r.2.2.2.2) :
    ix A n i 5 fun b a => ldI σ .i64 b a fun x1 => ldI σ .i64 b (a + 1) fun x2 => ldI σ .i64 b (a + 2) fun x3 => ldI σ .i64 b (a + 3) fun x4 => ldI σ .i64 b (a + 4) fun x5 => K x1 x2 x3 x4 x5 := QN h hi hn (hk _ rfl)
theorem Lu {m : Mp} {x : Leg} (h : C7 m x = false) : (0 ≤ x.1 ∧ x.1 < m.rs.length) ∧ (0 ≤ x.2 ∧ x.2 ≤ 100000) := by
  unfold C7 at h
  simpa using h
theorem NA {m : Mp} {i : Int} (h : i.toNat < m.rs.length) : Aw m i = m.rs[i.toNat] := by unfold Aw; simp [List.getD, h]
theorem N6 {w : MW} {m : Mp} {l : Lry} {A : Option Addr} {n c : Nat} {j : List Leg} (h : MIn σ w m) (hm : Br m) (hl : AQ m l) (hj : RdS sJ σ A n j) (hjl : j.length ≤ 4294967296) :
    Ae Try.prog H8 #[w.v, l.v, .slice A n c] σ fun v σ' => v = qV (jrn m l j) ∧ σ' = σ := by
  refine Gc _ _ _ _ _ _ _ _ _ _ _ _ _ _ _ _ _ ?_
  unfold CO
  have hn := hj.lenJ
  have hrn := h.rn
  have hpn := h.pn
  have hk30 := hm.k
  have hn12 := hm.n
  refine Bq (fun h60 => Az ⟨?_, rfl⟩) (fun h60 => ?_)
  · unfold jrn; rw [if_pos (by omega)]
  refine Ah fun J3 h3 => ?_
  have k3 : (∀ i (_ : i < j.length), C7 m j[i] = false) → J3 σ := by
    intro hgood
    have hjr : jrn m l j = wlk m l (bgn l) 0 j := by
      unfold jrn
      rw [if_neg (by omega), HF hgood]
      rfl
    rw [h3]
    intro _
    refine Ah fun J6 h6 => ?_
    have k6 : ∀ b τ, bx2 b l.fr 0 σ τ → J6 (some ⟨b, 0, none⟩) l.rdy τ := by
      intro b τ hb
      rw [h6]
      intro _
      refine Ah fun J11 h11 => ?_
      refine ⟨fun q now i τ => ∃ (k : Nat) (s : Std), q = j.length - k ∧ i = k ∧ k ≤ j.length ∧ now = s.sn ∧ bx2 b s.tn s.dv σ τ ∧ wlk m l (bgn l) 0 j = wlk m l s k (j.drop k) ∧ LG m l s ∧ s.sn ≤ 200000, ⟨_, 0, bgn l, rfl, rfl, by omega, rfl, hb, by rfl, hl.bgn, by have := hl.y; show l.rdy ≤ 200000; omega⟩, ?_⟩
      clear hb τ
      rintro q now i τ ⟨k, s, rfl, rfl, hk, rfl, hb, hw, hs, hs2⟩ _
      have ht := hs.t
      have hd := hs.d
      have hsn := hs.n
      have hy := hl.y
      have hdr := hl.d
      have hrs := hl.s
      refine Bq (fun hlt => ?_) (fun hge => ?_)
      · have hkl : k < j.length := by omega
        obtain ⟨hx1, hx2⟩ := Lu (hgood k hkl)
        have hdrop : j.drop k = j[k] :: j.drop (k + 1) := List.drop_eq_getElem_cons hkl
        refine Ah fun J24 h24 => ?_
        refine M4 (hj.sub hb.sub) (by omega) (by simpa using hkl) fun x hx => ?_
        simp only [Int.toNat_natCast] at hx
        rw [hx] at hx1 hx2 hdrop
        have hxk : x.1.toNat < m.rs.length := by omega
        have hrd := hm.rd (x := x) hx1
        refine ML (h.up hb.sub).r hx1.1 hxk fun r hr => ?_
        rw [← NA hxk] at hr
        rw [hr] at hrd
        obtain ⟨⟨a0, a1⟩, ⟨b0, b1⟩, hab, ⟨g0, g1⟩, _⟩ := hrd
        refine Ah fun J42 h42 => Ah fun J79 h79 => ?_
        have bad : go1 m l s x = none → rt τ (fun v σ' => v = qV (jrn m l j) ∧ σ' = σ) (.tuple #[.int .i64 0, .int .i64 0, .int .i64 k, .int .i64 92]) := fun hg => by
          refine Bg hb.sub ⟨?_, rfl⟩
          rw [hjr, hw, hdrop]
          show _ = qV (match go1 m l s x with | some s1 => wlk m l s1 (k + 1) (j.drop (k + 1)) | none => (0, 0, (k : Int), 92))
          rw [hg]
        have kbad : go1 m l s x = none → J79 true τ := fun hg => by
          rw [h79]
          intro _
          exact Gi (bad hg)
        have k42 : (s.tn = r.1 ∨ s.tn = r.2.1) → FJ l r → s.sn ≤ x.2 → J42 τ := by
          intro c1 c2 c3
          rw [h42]
          intro _
          refine Ah fun J45 h45 => Ah fun J65 h65 => ?_
          have k45 : ∀ τ d, bx2 b s.tn d σ τ → d = AO m l s x → J45 τ := by
            intro τ d hb e
            have hd1 : 0 ≤ d ∧ d ≤ 500 := by
              rw [e]
              unfold AO
              split <;> omega
            rw [h45]
            intro _
            have hnt : 0 ≤ r.1 + r.2.1 - s.tn ∧ r.1 + r.2.1 - s.tn < m.pk.length := by rcases c1 with e | e <;> omega
            refine Bh (by omega) (AI (hb.ld0 (Bh (by omega) (AI (hb.ld1 (Bh (by omega) (AI (hb.st0 fun τ hb => hb.st1 fun τ hb => ?_))))))))
            refine AI (hb.ld1 (Bq (fun c4 => ?_) (fun c4 => Bh (by omega) ?_)))
            · refine Bg hb.sub ⟨?_, rfl⟩
              have hg : go1 m l s x = none := by
                unfold go1
                rw [hr, if_pos ⟨c1, c2, c3⟩, if_neg (by omega)]
              rw [hjr, hw, hdrop]
              show _ = qV (match go1 m l s x with | some s1 => wlk m l s1 (k + 1) (j.drop (k + 1)) | none => (0, 0, (k : Int), 92))
              rw [hg]
            · have hg : go1 m l s x = some ⟨r.1 + r.2.1 - s.tn, x.2 + r.2.2.1, d + r.2.2.1⟩ := by
                unfold go1
                rw [hr, if_pos ⟨c1, c2, c3⟩, if_pos (by omega), ← e]
              obtain ⟨ok, _, _⟩ := hs.go hm (x := x) hx1 hg
              rw [h24]
              intro _
              refine Bh (by omega) (CA _ (by omega) ⟨k + 1, ⟨r.1 + r.2.1 - s.tn, x.2 + r.2.2.1, d + r.2.2.1⟩, rfl, rfl, by omega, rfl, hb, ?_, ok, by show x.2 + r.2.2.1 ≤ 200000; omega⟩)
              rw [hw, hdrop]
              show (match go1 m l s x with | some s1 => wlk m l s1 (k + 1) (j.drop (k + 1)) | none => (0, 0, (k : Int), 92)) = _
              rw [hg]
              rfl
          have k65 : ∀ t, (t = true ↔ gbp m.pk s.tn = true ∧ l.rst ≤ x.2 - s.sn) → J65 t τ := by
            intro t e
            rw [h65]
            intro _
            refine ID (fun et => ?_) (fun et => ?_)
            · refine AI (hb.st1 fun τ hb => k45 _ _ hb ?_)
              unfold AO
              rw [if_pos (e.1 et)]
            · refine k45 _ _ hb ?_
              unfold AO
              rw [if_neg fun g => by rw [e.2 g] at et; cases et]
          refine AI (hb.ld0 (M8 (h.up hb.sub).p (by omega) (by omega) ?_))
          refine ID (fun g => Bh (by omega) (k65 _ ?_)) (fun g => k65 _ ?_)
          · rw [g]; simp
          · rw [g]; simp
        have k79 : ∀ t, (t = false ↔ s.sn ≤ x.2) → (s.tn = r.1 ∨ s.tn = r.2.1) → FJ l r → J79 t τ := by
          intro t e c1 c2
          cases t with
          | true =>
            refine kbad ?_
            unfold go1
            rw [if_neg fun g => by have := e.2 g.2.2; cases this]
          | false =>
            rw [h79]
            intro _
            exact Et (k42 c1 c2 (e.1 rfl))
        have kf : (s.tn = r.1 ∨ s.tn = r.2.1) → cl Try.prog (.func (.func CQ) #[] #[]) #[rdV r, l.v] τ fun v σ91 => ∃ t : Bool, (v = .bool t ∧ bc (!t) (J79 true σ91) (J79 (decide (x.2 < s.sn)) σ91)) := fun c1 =>
          PA (fun c2 => C3 (k79 _ (by rw [decide_eq_false_iff_not]; omega) c1 c2)) (fun c2 => CU (kbad (by unfold go1; rw [hr, if_neg fun g => c2 g.2.1])))
        refine AI (hb.ld0 (Bw (fun c1 => ?_) (fun c1 => kf (.inl c1.symm))))
        refine AI (hb.ld0 (Bw (fun c2 => kbad ?_) (fun c2 => kf (.inr c2.symm))))
        unfold go1
        rw [hr, if_neg fun g => g.1.elim (fun e => c1 e.symm) (fun e => c2 e.symm)]
      · rw [h11]
        intro _
        refine AI (hb.ld0 (Bg hb.sub ⟨?_, rfl⟩))
        have : k = j.length := by omega
        subst this
        rw [hjr, hw, List.drop_length]
        rfl
    exact ⟨fun b hb => k6 b _ ⟨hb, rfl⟩, fun b hb => k6 b _ ⟨hb, rfl⟩⟩
  refine ⟨fun q i τ => ∃ k : Nat, q = j.length - k ∧ i = k ∧ k ≤ j.length ∧ τ = σ ∧ ∀ i, (h : i < j.length) → i < k → C7 m j[i] = false, ⟨_, 0, rfl, rfl, by omega, rfl, fun j _ h => by omega⟩, ?_⟩
  rintro q i τ ⟨k, rfl, rfl, hk, rfl, hg⟩ _
  refine Bq (fun hlt => ?_) (fun hge => k3 fun i hi => hg i hi (by omega))
  have hkl : k < j.length := by omega
  refine Ah fun J104 h104 => ?_
  refine QR hj (by omega) (by simpa using hkl) ?_
  simp only [Int.toNat_natCast]
  refine Ah fun J114 h114 => ?_
  have kbad : ¬ ((0 ≤ j[k].1 ∧ j[k].1 < m.rs.length) ∧ (0 ≤ j[k].2 ∧ j[k].2 ≤ 100000)) → J114 true τ := fun hb => by
    rw [h114]
    intro _
    refine Gi (Az ⟨?_, rfl⟩)
    have hf : Jy (C7 m) j = k := NE hkl (by unfold C7; rw [decide_eq_false hb]; rfl) hg
    unfold jrn
    rw [if_neg (by omega), hf, if_pos (by omega)]
  refine Bh (by omega) (BD (fun g1 => C3 ?_) (fun g1 => CU (kbad fun g => g1 (by have := g.1; omega))))
  refine BD (fun g2 => ?_) (fun g2 => kbad fun g => g2 g.2)
  rw [h114]
  intro _
  refine Et ?_
  rw [h104]
  intro _
  refine Bh (by omega) (CA _ (by omega) ⟨k + 1, rfl, rfl, by omega, rfl, fun i h' hik => ?_⟩)
  rcases Nat.lt_or_ge i k with hlt | hge
  · exact hg i h' hlt
  · obtain rfl : i = k := by omega
    unfold C7
    rw [decide_eq_true ⟨by omega, g2⟩]
    rfl
def GA (m : Mp) (l : Lry) (j : List Leg) : Int × Int × Int × Int := if eC m [l] = 0 then jrn m l j else (0, 0, 0, eC m [l])
theorem FI {w : MW} {m : Mp} {l : Lry} {A : Option Addr} {n c : Nat} {j : List Leg} (h : MIn σ w m) (hp : m.pk.length ≤ 4294967296) (hr : m.rs.length ≤ 4294967296) (hj : RdS sJ σ A n j) (hjl : j.length ≤ 4294967296) :
    Ae Try.prog Fj #[w.v, l.v, .slice A n c] σ fun v σ' => v = qV (GA m l j) ∧ σ' = σ := by
  refine Ed _ _ _ _ _ _ _ _ _ _ _ _ _ _ _ _ _ ?_
  unfold BL
  intro A1 l1 c1 σ2 ho
  refine Lk h hp hr ho (fun hm hl e0 => Bw (fun g => absurd rfl g) (fun _ => ?_)) (fun e0 => Bw (fun _ => Bg ho.sub ⟨?_, rfl⟩) (fun g => absurd g e0))
  · refine Bl EQ (N6 (h.up ho.sub) hm.ok hl (hj.sub ho.sub) hjl) ?_
    rintro v σ' ⟨rfl, rfl⟩
    refine ⟨_, _, _, _, rfl, Bg ho.sub ⟨?_, rfl⟩⟩
    unfold GA
    rw [if_pos e0]
  · unfold GA
    rw [if_neg e0]
theorem Ig {w : MW} {m : Mp} {t : Int} {A : Option Addr} {n c : Nat} {ls : List LrT} (h : MIn σ w m) (hp : m.pk.length ≤ 4294967296) (hr : m.rs.length ≤ 4294967296) (hl : RdS sL σ A n ls) (hll : ls.length ≤ 4294967296) :
    Ae Try.prog GB #[w.v, .int .i64 t, .slice A n c] σ fun v σ' => v = .int .i64 (eT m (ls.map DN) t) ∧ σ' = σ := by
  refine Fk _ _ _ _ _ _ _ _ _ _ _ _ ?_
  unfold Cf
  have hpn := h.pn
  have hn := hl.lenL
  refine Nv h hp hr (fun hm => Bw (fun h => absurd rfl h) (fun _ => ?_)) (fun hm => Bw (fun _ => Az ⟨?_, rfl⟩) (fun h => absurd h (by decide)))
  · have ho := Mp.okB_iff.2 hm
    refine Bq (fun h8 => Az ⟨?_, rfl⟩) (fun h8 => ?_)
    · unfold eT
      rw [if_pos ho, if_pos (by rw [List.length_map]; omega)]
    refine clI CZ (Nd h hp hr hl hll) ?_
    have e : eT m (ls.map DN) t = if (ls.map DN).all (lrB m.pk.length) = true then (if 0 ≤ t ∧ t < m.pk.length then 0 else 1) else 91 := by
      unfold eT
      rw [if_pos ho, if_neg (by rw [List.length_map]; omega)]
    have e2 : eC m (ls.map DN) = if (ls.map DN).all (lrB m.pk.length) = true then 0 else 91 := by
      unfold eC
      rw [if_pos ho]
    rw [e2, e]
    by_cases ha : (ls.map DN).all (lrB m.pk.length) = true
    · rw [if_pos ha, if_pos ha]
      refine Bw (fun h => absurd rfl h) (fun _ => ?_)
      refine L6 (w := w) (by omega) (fun g => C3 (Az ⟨?_, rfl⟩)) (fun g => CU (Az ⟨?_, rfl⟩))
      · rw [if_pos (by omega)]
      · rw [if_neg (by omega)]
    · rw [if_neg ha, if_neg ha]
      exact Bw (fun _ => Az ⟨rfl, rfl⟩) (fun h => absurd h (by decide))
  · unfold eT
    rw [if_neg fun h => hm (Mp.okB_iff.1 h)]
end
end Go.Proofs.Ytkdjkkimngeloaa
