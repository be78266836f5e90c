/- Trimmed by wip/trim.py to what this claim rests on. -/
import Derived.Test.YtkdjkkimngeloaaZKc1
import Derived.Test.YtkdjkkimngeloaaZVd2
namespace Go.Proofs.Ytkdjkkimngeloaa
open Go.RowKit Go.ChangeShapes Go.WideShapes Go.Deep Go.Joins
theorem Pq {m : Mp} {l : Lry} {j : List Leg} (h : (K6 m l j).2.2.2 = 0) : MpS m ∧ Bg m l ∧ j.length ≤ 60 ∧ (∀ x ∈ j, JB m x ∧ 0 ≤ x.2 ∧ x.2 ≤ 100000) ∧ K6 m l j = wlk m l (bgn l) 0 j := by
  have e0 : eC m [l] = 0 := by
    by_cases e : eC m [l] = 0
    · exact e
    · unfold K6 at h
      rw [if_neg e] at h
      exact absurd h e
  obtain ⟨hm, hl⟩ := Pu e0
  have e1 : K6 m l j = jrn m l j := by unfold K6; rw [if_pos e0]
  rw [e1] at h ⊢
  unfold jrn at h ⊢
  by_cases h60 : 60 < j.length
  · rw [if_pos h60] at h
    cases h
  rw [if_neg h60] at h ⊢
  by_cases hb : 0 ≤ IT (Dk m) j
  · rw [if_pos hb] at h
    cases h
  rw [if_neg hb]
  refine ⟨hm, hl, by omega, fun x hx => ?_, rfl⟩
  have ha : j.any (Dk m) = false := by
    rw [← K0]
    exact decide_eq_false hb
  exact KP (by have := List.any_eq_false.1 ha x hx; simpa using this)
set_option maxRecDepth 100000 in
theorem K8 {σ : Hp} {w : MW} {m : Mp} {l : Lry} {A : Option Addr} {n c : Nat} {j : List Leg} (h : MIn σ w m) (hj : RdS sJ σ A n j) : Ae Try.prog BD #[w.v, l.v, .slice A n c] σ fun v _ => v = .bool true := by
  refine D0 _ _ _ _ _ _ _ _ _ _ _ _ _ _ _ _ _ ?_
  unfold Bz
  have hn := hj.lenJ
  refine Aj fun J3 h3 => Aj fun J103 h103 => ?_
  have k103 : ∀ t : Bool, (t = false → L1 m = false ∧ j.length ≤ 80) → J103 t σ := by
    intro t ht
    rw [h103]
    clear h103
    intro _
    refine Hw (fun _ => Ku (Az rfl)) (fun et => ?_)
    obtain ⟨hf, hjl⟩ := ht et
    obtain ⟨f1, f2⟩ := M0 hf
    rw [h3]
    clear h3 J3
    intro _
    refine Qi h hf fun w1 σ5 hs5 h1 => ?_
    refine Qx (hj.sub hs5) (by omega) fun A' n' c' σ9 hs9 hj9 => ?_
    refine BH C8 (I3 (l := l) (h1.up hs9) (by omega) (by omega) hj9 (by omega)) ?_
    rintro v σ12 ⟨rfl, rfl⟩
    refine ⟨_, _, _, _, rfl, ?_⟩
    have hs := hs5.trans hs9
    refine B0 (fun _ => Ku (Az rfl)) (fun e0 => ?_)
    obtain ⟨hm, hl, h60, hlg, hq⟩ := Pq e0
    rw [hq] at e0 ⊢
    have hin := h.up hs
    have hjn := hj.sub hs
    have hpn := h.pn
    have hrn := h.rn
    have hk30 := hm.k
    have hn12 := hm.n
    refine Aj fun J22 h22 => ?_
    refine ⟨fun q a b d i τ => ∃ (k : Nat) (s : Std), q = j.length - k ∧ i = k ∧ k ≤ j.length ∧ a = s.tn ∧ b = s.sn ∧ d = s.dv ∧ τ = σ12 ∧ wlk m l (bgn l) 0 j = wlk m l s k (j.drop k) ∧ Lj m l s ∧ s.sn ≤ 200000, ⟨_, 0, bgn l, rfl, rfl, by omega, rfl, rfl, rfl, rfl, rfl, hl.bgn, by have := hl.y; show l.rdy ≤ 200000; omega⟩, ?_⟩
    rintro q a b d i τ ⟨k, s, rfl, rfl, hk, rfl, rfl, rfl, rfl, hw, hst, hs2⟩ _
    refine Bl (fun hlt => ?_) (fun hge => ?_)
    · have hkl : k < j.length := by omega
      obtain ⟨hx1, hx2, hx3⟩ := hlg _ (List.getElem_mem hkl)
      have hdrop : j.drop k = j[k] :: j.drop (k + 1) := List.drop_eq_getElem_cons hkl
      generalize hx : j[k] = x at hx1 hx2 hx3 hdrop
      obtain ⟨s1, hg⟩ : ∃ s1, go1 m l s x = some s1 := by
        cases hg : go1 m l s x with
        | some s1 => exact ⟨s1, rfl⟩
        | none =>
          rw [hw, hdrop] at e0
          have e0 : (match go1 m l s x with | some s1 => wlk m l s1 (k + 1) (j.drop (k + 1)) | none => (0, 0, (k : Int), 92)).2.2.2 = 0 := e0
          rw [hg] at e0
          cases e0
      obtain ⟨c1, c2, c3, c4, hs1⟩ := Gy.1 hg
      obtain ⟨ok, _, esn⟩ := hst.go hm.ok (x := x) hx1 hg
      have hxk : x.1.toNat < m.rs.length := by have := hx1.1; have := hx1.2; omega
      have hrd := hm.ok.rd (x := x) hx1
      have hd := hst.d
      have hsn := hst.n
      have hy := hl.y
      have hdr := hl.d
      have htn := hst.t
      have hw1 : wlk m l (bgn l) 0 j = wlk m l s1 (k + 1) (j.drop (k + 1)) := by
        rw [hw, hdrop]
        show (match go1 m l s x with | some s1 => wlk m l s1 (k + 1) (j.drop (k + 1)) | none => (0, 0, (k : Int), 92)) = _
        rw [hg]
      refine Aj fun J38 h38 => ?_
      have k38 : J38 s1.tn s1.sn s1.dv τ := by
        obtain ⟨_, _, _, ⟨_, g4⟩, _⟩ := hrd
        rw [h38]
        intro _
        exact Bc (by omega) (CO _ (by omega) ⟨k + 1, s1, rfl, rfl, by omega, rfl, rfl, rfl, rfl, hw1, ok, by omega⟩)
      clear h38
      have ld1 : ∀ {K : Int → Prop}, K x.2 → ix A n (k : Int) 2 fun b a => ldI τ .i64 b (a + 1) K := fun hk => Qh hjn (by omega) (by simpa using hkl) (by simpa [hx] using hk)
      have ld0 : ∀ {K : Int → Prop}, K x.1 → ix A n (k : Int) 2 fun b a => ldI τ .i64 b a K := fun hk => Qb hjn (by omega) (by simpa using hkl) (by simpa [hx] using hk)
      refine Aj fun J47 h47 => Aj fun J93 h93 => ?_
      refine ld0 (Bl (fun g => absurd hx1.1 (by omega)) (fun _ => ld0 ?_))
      rw [decide_eq_false (by have := hx1.2; omega), h93]
      intro _
      refine FZ ?_
      rw [h47]
      clear h47 h93 J47 J93
      intro _
      refine ld0 ?_
      refine Kk hin.r hx1.1 hxk fun r hr => ?_
      rw [← JZ hxk] at hr
      rw [hr] at c1 c2 c4 hs1 hrd
      obtain ⟨⟨a0, a1⟩, ⟨b0, b1⟩, hab, ⟨g0, g1⟩, _⟩ := hrd
      refine Aj fun J60 h60 => Aj fun J83 h83 => ?_
      have k60 : J60 τ := by
        rw [h60]
        intro _
        refine Aj fun J63 h63 => Aj fun J72 h72 => ?_
        have hd1 : 0 ≤ Cu m l s x ∧ Cu m l s x ≤ 500 := by
          unfold Cu
          split <;> omega
        have k63 : J63 (Cu m l s x) τ := by
          rw [h63]
          intro _
          refine Bc (by omega) (Bl (fun g => absurd c4 (by omega)) (fun _ => ld1 (Bc (by omega) ?_)))
          have e2 : s1.sn = x.2 + r.2.2.1 := by rw [hs1]
          have e3 : s1.dv = Cu m l s x + r.2.2.1 := by rw [hs1]
          have e4 : s1.tn = r.1 + r.2.1 - s.tn := by rw [hs1]
          refine Bl (fun g => ?_) (fun g => ?_)
          · have e5 : r.2.1 = s1.tn := by omega
            rw [← e2, ← e3, e5]
            exact k38
          · have e5 : r.1 = s1.tn := by
              rcases c1 with c1 | c1
              · exact absurd c1 g
              · omega
            rw [← e2, ← e3, e5]
            exact k38
        have k72 : ∀ t, (t = true ↔ gbp m.pk s.tn = true ∧ l.rst ≤ x.2 - s.sn) → J72 t τ := by
          intro t e
          rw [h72]
          intro _
          refine Hw (fun et => ?_) (fun et => ?_)
          · have e6 : Cu m l s x = 0 := by unfold Cu; rw [if_pos (e.1 et)]
            rw [e6] at k63
            exact k63
          · have e6 : Cu m l s x = s.dv := by unfold Cu; rw [if_neg fun g => by rw [e.2 g] at et; cases et]
            rw [e6] at k63
            exact k63
        refine JY hin.p (by omega) (by omega) ?_
        refine Hw (fun g => ld1 (Bc (by omega) (k72 _ ?_))) (fun g => k72 _ ?_)
        · rw [g]; simp
        · rw [g]; simp
      have k83 : J83 (decide ((w.pn : Int) ≤ s.tn)) τ := by
        rw [decide_eq_false (by omega), h83]
        intro _
        exact FZ k60
      obtain ⟨cf1, cf2⟩ := c2
      refine Bl (fun g => absurd cf1 (by omega)) (fun _ => Bl (fun g => absurd cf2 (by omega)) (fun _ => ?_))
      have fin : ix A n (k : Int) 2 fun b a => ldI τ .i64 b (a + 1) fun n87 => bc (decide (n87 < s.sn)) (J83 true τ) (bc (decide (s.tn < 0)) (J83 true τ) (J83 (decide ((w.pn : Int) ≤ s.tn)) τ)) :=
        ld1 (Bl (fun g => absurd c3 (by omega)) (fun _ => Bl (fun g => absurd htn.1 (by omega)) (fun _ => k83)))
      refine B0 (fun g1 => B0 (fun g2 => absurd c1 (by omega)) (fun _ => fin)) (fun _ => fin)
    · rw [h22]
      intro _
      have hkl : k = j.length := by omega
      subst hkl
      rw [List.drop_length] at hw
      have e1 : (wlk m l (bgn l) 0 j).1 = s.tn := by rw [hw]; rfl
      have e2 : (wlk m l (bgn l) 0 j).2.1 = s.sn := by rw [hw]; rfl
      exact Bl (fun _ => Bl (fun _ => Ku (Az rfl)) (fun g => absurd e2 g)) (fun g => absurd e1 g)
  refine clB GO (QZ h) (Hw (fun _ => k103 _ fun e => (by cases e)) (fun hf => k103 _ fun e => ⟨hf, ?_⟩))
  have := of_decide_eq_false e
  omega
set_option maxRecDepth 100000 in
theorem I0 (os : Os) (started : os.Started) (H : Type) (enc : TypeId × Value → H) :
    ReturnsInHanded {} Try.checked os BD .any (Rows.convoyBridgesSpec.pre6 enc Try.prog Try.f9 Rows.convoyBridgesRow.domain false) (Rows.convoyBridgesSpec.post enc Try.prog Try.f9 false true false false) := by
  refine returnsInHanded_of_change (C := Try.checked) Try.own started (by kernel_rfl) Try.func9
    (ChangeSpec.witness6 (enc := enc) (C := Try.checked) false ⟨#[], #[.agg #[.slice none 0 0, .slice none 0 0], .agg #[.int .i64 0, .int .i64 0, .int .i64 0, .int .i64 0, .int .i64 0, .int .i64 0], .slice none 0 0], []⟩ 8 (by kernel_rfl) (by kernel_rfl) (by kernel_rfl) (by kernel_rfl)) ?_
  intro W base args ds gs before hval0 hW _ _
  have hval : ∀ (j : Nat) t v, Try.f9.params[j]? = some t → args[j]? = some v → Value.okWide Try.prog W .any base t v := hval0
  have hW' := hW
  obtain ⟨p, q, hA0, hV, rfl, hfz, hnd⟩ := hW
  have hA : DataW.TrodAll enc Try.prog W 0 (fun _ => true) true Try.f9.params.toList args.toList ds p := hA0
  have hA1 := hA
  rw [Try.params9] at hA hval
  obtain ⟨v0, v1, v2, d0, d1, d2, p0, p1, p2, rfl, rfl, rfl, h0, h1, h2⟩ := trodAll_three hA
  obtain ⟨rfl, rfl⟩ := trodVars_none hV
  obtain ⟨w, m, rfl, hm⟩ := Pf (hval 0 25 v0 rfl rfl) h0
  obtain ⟨l, rfl⟩ := LP (hval 1 27 v1 rfl rfl) h1
  obtain ⟨jA, jn, jc, j, rfl, hjc, hj⟩ := NR (hval 2 32 v2 rfl rfl) h2
  simp only [List.append_nil] at hW' hA1
  exact Of Try.laidOut (by kernel_rfl) rfl Try.underlying4 rfl rfl hW' hA1 (K8 hm hj)
theorem convoyBridges_holds : Rows.ConvoyBridgesSaid :=
  OpenClaim.holds_of_wide BD Try.f9 rfl rfl rfl rfl rfl rfl rfl ⟨rfl, rfl, rfl, rfl, rfl⟩ rfl rfl rfl rfl rfl (by kernel_rfl) Try.func9 (by kernel_rfl)
    (of_decide_eq_true (by kernel_rfl)) (by unfold Func.isWrapper; rw [if_neg (of_decide_eq_false (by kernel_rfl))]; exact ⟨rfl, rfl⟩)
    (fun os started H enc _ => I0 os started H enc)
end Go.Proofs.Ytkdjkkimngeloaa
