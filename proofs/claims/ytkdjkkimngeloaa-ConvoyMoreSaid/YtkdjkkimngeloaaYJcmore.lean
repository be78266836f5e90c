/- Trimmed by wip/trim.py to what this claim rests on. -/
import Derived.Test.YtkdjkkimngeloaaYKc2
import Derived.Test.YtkdjkkimngeloaaYVd5
namespace Go.Proofs.Ytkdjkkimngeloaa
open Go.RowKit Go.ChangeShapes Go.WideShapes Go.Deep Go.Joins
def QM (σ : Hp) (w : MW) (m : Mp) (τ : Hp) : Prop := ∃ s0 s1 s2, Hp.Sub σ s0 ∧ An 4 [.bool] s0 w.pA w.pn w.pc m.pk s1 ∧ An 51 sR s1 w.rA w.rn w.rc m.rs s2 ∧ Hp.Sub s2 τ
theorem QM.pk {σ τ : Hp} {w : MW} {m : Mp} {i : Int} {K : Hp → Prop} (h : QM σ w m τ) (h0 : 0 ≤ i) (hi : i.toNat < m.pk.length) (hk : ∀ τ', QM σ w ⟨m.pk.set i.toNat true, m.rs⟩ τ' → K τ') : ix w.pA w.pn i 1 fun b a => st τ b a (.bool true) K := by
  obtain ⟨s0, s1, s2, h0', h1, h2, h3⟩ := h
  obtain ⟨s1', h4, h5⟩ := An.swap h1 h2
  refine h5.ix_stB h3 h0 hi fun σ2 τ2 h6 h7 => ?_
  obtain ⟨s3, h8, h9⟩ := An.swap h4 h6
  exact hk τ2 ⟨s0, s3, σ2, h0', h8, h9, h7⟩
theorem QM.hg {σ τ : Hp} {w : MW} {m : Mp} {i v : Int} {K : Hp → Prop} (h : QM σ w m τ) (h0 : 0 ≤ i) (hi : i.toNat < m.rs.length) (hk : ∀ τ', QM σ w ⟨m.pk, m.rs.set i.toNat (m.rs[i.toNat].1, m.rs[i.toNat].2.1, m.rs[i.toNat].2.2.1, v, m.rs[i.toNat].2.2.2.2)⟩ τ' → K τ') : ix w.rA w.rn i 5 fun b a => st τ b (a + 3) (.int .i64 v) K := by
  obtain ⟨s0, s1, s2, h0', h1, h2, h3⟩ := h
  obtain ⟨b, off, hA, hp⟩ := An.put h2 h3 hi
  have hl : w.rn = m.rs.length := An.len h2
  rw [hA]
  obtain ⟨hw, σ2, ho2, hs2⟩ := hp 3 (.int .i64 v) (m.rs[i.toNat].1, m.rs[i.toNat].2.1, m.rs[i.toNat].2.2.1, v, m.rs[i.toNat].2.2.2.2) rfl
  refine ⟨h0, by omega, ?_, ?_⟩
  · simpa [Bh, Nat.add_assoc] using hw
  · refine hk _ ⟨s0, s1, σ2, h0', h1, ho2, ?_⟩
    simpa [Bh, Nat.add_assoc] using hs2
theorem QM.app {σ τ : Hp} {w : MW} {m : Mp} {r : Rdt} {K : Option Addr → Nat → Nat → Hp → Prop} (h : QM σ w m τ) (hl : m.rs.length + 1 ≤ 4294967296) (hk : ∀ A n c τ', Hp.Sub σ τ' → MIn τ' ⟨w.pA, w.pn, w.pc, A, n, c⟩ ⟨m.pk, m.rs ++ [r]⟩ → K A n c τ') :
    adp 51 sR w.rA w.rn w.rc τ fun (xs : List Rdt) σ => CJ (List.length xs + List.length ([r] : List Rdt)) (exl 51 sR (xs ++ ([r] : List Rdt)) σ K) := by
  obtain ⟨s0, s1, s2, h0, h1, h2, h3⟩ := h
  obtain ⟨s', h4, h5⟩ := An.junk h2 h3
  refine ⟨m.rs, s', h4, B3 hl fun A n c τ' ho => hk A n c τ' (h0.trans ((An.sub h1).trans (h5.trans (An.sub ho)))) ⟨(An.rd h1).sub (h5.trans (An.sub ho)), An.rd ho⟩⟩
theorem Ql {e : Int} {K : Int → Prop} (h : K (IntKind.i64.wrap e)) : wk .i64 e K := h
set_option maxRecDepth 100000 in
theorem Oe {σ : Hp} {w : MW} {m : Mp} {l : Lry} {mt mr mb : Int} {nr : Rdt} (h : MIn σ w m) : Ad Try.prog Ca #[w.v, l.v, .agg #[.int .i64 mt, .int .i64 mr, .int .i64 mb, .int .i64 nr.1, .int .i64 nr.2.1, .int .i64 nr.2.2.1, .int .i64 nr.2.2.2.1, .int .i64 nr.2.2.2.2]] σ fun v _ => v = .bool true := by
  refine Fa _ _ _ _ _ _ _ _ _ _ _ _ _ _ _ _ _ _ _ _ _ _ ?_
  unfold B8
  have hpn0 := h.pn
  refine N9 h fun σ5 hs5 => Kw (fun _ => JY (AA rfl)) (fun hf => ?_)
  obtain ⟨hf, f1, f2, _⟩ := PJ hf
  refine QD (h.up hs5) hf fun w1 σ11 hs11 h1 => ?_
  refine Bp CP (Lm (l := l) h1 (by omega) (by omega)) ?_
  intro v σ15 hq
  have hp : ∃ A n c e, ∃ xs : List Int, v = .tuple #[.slice A n c, .int .i64 e] ∧ Hp.Sub σ11 σ15 ∧ RdS [.int .i64] σ15 A n xs ∧ (e = 0 → MpS m ∧ A0 m l ∧ PV m l xs m.pk.length) := by
    rcases hq with ⟨e, rfl, rfl⟩ | ⟨e0, hm, hl, A, n, c, xs, rfl, ho, hx⟩
    · exact ⟨_, _, _, _, [], rfl, Hp.Sub.refl _, ⟨rfl, .inl rfl⟩, fun e0 => absurd e0 e⟩
    · exact ⟨_, _, _, _, xs, rfl, ho.sub, ho.rd, fun _ => ⟨hm, hl, hx⟩⟩
  obtain ⟨A16, n16, c16, e, xs, rfl, hs15, hrd16, hbef⟩ := hp
  clear hq
  refine ⟨_, _, _, _, rfl, ?_⟩
  have hs := hs5.trans (hs11.trans hs15)
  refine Bp Dm (Ov (h.up hs) hf) ?_
  rintro v σ19 ⟨w2, s, rfl, q1, q2⟩
  refine ⟨_, _, _, _, _, _, rfl, ?_⟩
  have hQ : QM σ15 w2 m σ19 := ⟨σ15, s, σ19, Hp.Sub.refl _, q1, q2, Hp.Sub.refl _⟩
  have hpn : w2.pn = m.pk.length := An.len q1
  have hrn : w2.rn = m.rs.length := An.len q2
  clear q1 q2
  refine Ai fun J24 h24 => Ai fun J99 h99 => ?_
  -- the roads
  have k24 : ∀ pk' τ, pk'.length = m.pk.length → (∀ i : Int, gbp m.pk i = true → gbp pk' i = true) → QM σ15 w2 ⟨pk', m.rs⟩ τ → J24 τ := by
    intro pk' τ hpl hpi hQ
    rw [h24]
    clear h24 h99 J99 J24
    intro _
    refine Ai fun J27 h27 => ?_
    have k27 : ∀ rs' τ, rs'.length = m.rs.length → (MpS m → ∀ i (_ : i < m.rs.length) (_ : i < rs'.length), rs'[i].1 = m.rs[i].1 ∧ rs'[i].2.1 = m.rs[i].2.1 ∧ rs'[i].2.2.1 = m.rs[i].2.2.1 ∧ m.rs[i].2.2.2.1 ≤ rs'[i].2.2.2.1 ∧ m.rs[i].2.2.2.2 ≤ rs'[i].2.2.2.2) → QM σ15 w2 ⟨pk', rs'⟩ τ → J27 τ := by
      intro rs' τ hrl hri hQ
      rw [h27]
      clear h27 J27
      intro _
      refine hQ.app (r := nr) (by show rs'.length + 1 ≤ _; omega) fun A n c τ2 hs2 hin => ?_
      obtain ⟨m2, hm2⟩ : ∃ m2 : Mp, m2 = ⟨pk', rs' ++ [nr]⟩ := ⟨_, rfl⟩
      have hin : MIn τ2 ⟨w2.pA, w2.pn, w2.pc, A, n, c⟩ m2 := by rw [hm2]; exact hin
      have l1 : m2.pk.length = pk'.length := by rw [hm2]
      have l2 : m2.rs.length = rs'.length + 1 := by rw [hm2]; exact List.length_append ..
      refine Bp CP (Lm (w := ⟨w2.pA, w2.pn, w2.pc, A, n, c⟩) (m := m2) (l := l) hin (by omega) (by omega)) ?_
      intro v σ33 hq
      have hp : ∃ A n c e', ∃ ys : List Int, v = .tuple #[.slice A n c, .int .i64 e'] ∧ Hp.Sub τ2 σ33 ∧ RdS [.int .i64] σ33 A n ys ∧ (e' = 0 → MpS m2 ∧ A0 m2 l ∧ PV m2 l ys m2.pk.length) := by
        rcases hq with ⟨e, rfl, rfl⟩ | ⟨e0, hm, hl, A, n, c, ys, rfl, ho, hx⟩
        · exact ⟨_, _, _, _, [], rfl, Hp.Sub.refl _, ⟨rfl, .inl rfl⟩, fun e0 => absurd e0 e⟩
        · exact ⟨_, _, _, _, ys, rfl, ho.sub, ho.rd, fun _ => ⟨hm, hl, hx⟩⟩
      obtain ⟨A34, n34, c34, e', ys, rfl, hs33, hrd34, haft⟩ := hp
      clear hq
      refine ⟨_, _, _, _, rfl, ?_⟩
      have hs16 := hs2.trans hs33
      refine Ai fun J38 h38 => Ai fun J81 h81 => ?_
      have k81t : J81 true σ33 := by
        rw [h81]
        intro _
        exact Gm (JY (AA rfl))
      refine Cs (fun _ => k81t) (fun e0 => ?_)
      by_cases e1 : e' = 0
      case neg =>
        rw [decide_eq_false e1]
        exact k81t
      rw [decide_eq_true e1, h81]
      clear h81 k81t J81
      intro _
      refine Es ?_
      rw [h38]
      clear h38 J38
      intro _
      obtain ⟨hm, hl, hx⟩ := hbef e0
      obtain ⟨hm', hl', hy⟩ := haft e1
      have hB : Btr m m2 := by
        rw [hm2]
        refine ⟨hpi, by show _ ≤ (rs' ++ [nr]).length; simp; omega, fun i h1 h2 => ?_⟩
        have e2 : (rs' ++ [nr])[i]'h2 = rs'[i]'(by omega) := List.getElem_append_left (by omega)
        show ((rs' ++ [nr])[i]'h2).1 = _ ∧ ((rs' ++ [nr])[i]'h2).2.1 = _ ∧ ((rs' ++ [nr])[i]'h2).2.2.1 = _ ∧ _ ≤ ((rs' ++ [nr])[i]'h2).2.2.2.1 ∧ _ ≤ ((rs' ++ [nr])[i]'h2).2.2.2.2
        rw [e2]
        exact hri hm i h1 (by omega)
      have hn16 : n16 = xs.length := hrd16.1
      have hn34 : n34 = ys.length := hrd34.1
      have hxl := hx.1
      have hyl := hy.1
      refine Ai fun J41 h41 => Ai fun J77 h77 => ?_
      refine Cs (fun g => absurd (show ((n16 : Nat) : Int) = ((w.pn : Nat) : Int) by omega) g) (fun _ => ?_)
      rw [decide_eq_true (show ((n34 : Nat) : Int) = ((n16 : Nat) : Int) by omega), h77]
      intro _
      refine Es ?_
      rw [h41]
      clear h41 h77 J41 J77
      intro _
      refine Ai fun J44 h44 => ?_
      refine ⟨fun q i τ => ∃ k : Nat, q = xs.length - k ∧ i = k ∧ k ≤ xs.length ∧ τ = σ33, ⟨_, 0, rfl, rfl, Nat.zero_le _, rfl⟩, ?_⟩
      rintro q i τ ⟨k, rfl, rfl, hk, rfl⟩ _
      refine Bn (fun hlt => ?_) (fun hge => ?_)
      · have hkl : k < xs.length := by omega
        have hkl' : k < ys.length := by omega
        refine Ai fun J55 h55 => Ai fun J61 h61 => ?_
        have kf : J61 false τ := by
          rw [h61]
          intro _
          refine Es ?_
          rw [h55]
          intro _
          exact Bx (by omega) (CN _ (by omega) ⟨k + 1, rfl, rfl, by omega, rfl⟩)
        have rx : ∀ {K : Int → Prop}, K xs[k] → ix A16 n16 (k : Int) 1 fun b a => ldI τ .i64 b a K := fun hk => Ko (hrd16.sub hs16) (by omega) (by simpa using hkl) (by simpa using hk)
        have ry : ∀ {K : Int → Prop}, K ys[k] → ix A34 n34 (k : Int) 1 fun b a => ldI τ .i64 b a K := fun hk => Ko hrd34 (by omega) (by simpa using hkl') (by simpa using hk)
        have hxk := hx.2 k hkl
        have hyk := hy.2 k hkl'
        generalize xs[k] = x at hxk rx
        generalize ys[k] = y at hyk ry
        refine rx (Bn (fun gx => ?_) (fun _ => kf))
        rcases hxk with ⟨_, rfl⟩ | ⟨c0, hsn, rfl⟩
        · omega
        · obtain ⟨g1, g2⟩ := hB.reach hm.ok hl hm'.ok hl' hsn
          rcases hyk with ⟨hn, _⟩ | ⟨c1, hsn', rfl⟩
          · exact absurd hn g1
          · have h5 := g2 c1 hsn'
            obtain ⟨⟨p, hp, hrc⟩, _⟩ := hsn'
            have h6 := hrc.ok hm'.ok hl'
            have hrdy := hl.y
            refine ry (Bn (fun g => absurd g (by omega)) (fun _ => ry (rx ?_)))
            rw [decide_eq_false (by omega)]
            exact kf
      · rw [h44]
        intro _
        exact JY (AA rfl)
    refine Ai fun J88 h88 => ?_
    have kf : J88 false τ := by
      rw [h88]
      intro _
      exact Es (k27 m.rs τ rfl (fun _ i _ _ => ⟨rfl, rfl, rfl, Int.le_refl _, Int.le_refl _⟩) hQ)
    refine Bn (fun a1 => Bn (fun a2 => Bn (fun a3 => ?_) (fun _ => kf)) (fun _ => kf)) (fun _ => kf)
    by_cases a4 : mb ≤ 1000
    case neg =>
      rw [decide_eq_false a4]
      exact kf
    rw [decide_eq_true a4, h88]
    intro _
    refine Gm ?_
    have hik : mr.toNat < m.rs.length := by omega
    have hrd : RdS sR τ w2.rA w2.rn m.rs := by
      obtain ⟨s0, s1, s2, _, _, h2, h3⟩ := hQ
      exact (An.rd h2).sub h3
    refine QN hrd a1 hik (Ql ?_)
    refine hQ.hg (i := mr) a1 hik fun τ' hQ' => ?_
    refine k27 _ τ' (by simp) (fun hm i h1 h2 => ?_) hQ'
    by_cases ei : mr.toNat = i
    · subst ei
      rw [List.getElem_set_self]
      have hh := (hm.r _ (List.getElem_mem hik)).2.2.2.2.1
      refine ⟨rfl, rfl, rfl, ?_, Int.le_refl _⟩
      show _ ≤ IntKind.i64.wrap _
      rw [K0 (by omega)]
      omega
    · rw [List.getElem_set_ne ei]
      exact ⟨rfl, rfl, rfl, Int.le_refl _, Int.le_refl _⟩
  have kf : J99 false σ19 := by
    rw [h99]
    intro _
    exact Es (k24 m.pk σ19 rfl (fun _ hi => hi) hQ)
  refine Bn (fun a1 => ?_) (fun _ => kf)
  by_cases a2 : mt < (w2.pn : Int)
  case neg =>
    rw [decide_eq_false a2]
    exact kf
  rw [decide_eq_true a2, h99]
  intro _
  refine Gm ?_
  have hik : mt.toNat < m.pk.length := by omega
  refine hQ.pk (i := mt) a1 hik fun τ' hQ' => k24 _ τ' (by simp) (fun i hi => ?_) hQ'
  unfold gbp at hi ⊢
  show (m.pk.set mt.toNat true).getD i.toNat false = true
  by_cases e : mt.toNat = i.toNat
  · rw [← e]
    simp [List.getD, hik]
  · rw [List.getD_eq_getElem?_getD, List.getElem?_set_ne e, ← List.getD_eq_getElem?_getD]
    exact hi
set_option maxRecDepth 100000 in
theorem Lg (os : Os) (started : os.Started) (H : Type) (enc : TypeId × Value → H) :
    ReturnsInHanded {} Try.checked os Ca .any (Rows.convoyMoreSpec.pre6 enc Try.prog Try.f7 Rows.convoyMoreRow.domain false) (Rows.convoyMoreSpec.post enc Try.prog Try.f7 false true false false) := by
  refine returnsInHanded_of_change (C := Try.checked) Try.own started (by kernel_rfl) Try.func7
    (ChangeSpec.witness6 (enc := enc) (C := Try.checked) false ⟨#[], #[.agg #[.slice none 0 0, .slice none 0 0], .agg #[.int .i64 0, .int .i64 0, .int .i64 0, .int .i64 0, .int .i64 0, .int .i64 0], .agg #[.int .i64 0, .int .i64 0, .int .i64 0, .int .i64 0, .int .i64 0, .int .i64 0, .int .i64 0, .int .i64 0]], []⟩ 8 (by kernel_rfl) (by kernel_rfl) (by kernel_rfl) (by kernel_rfl)) ?_
  intro W base args ds gs before hval0 hW _ _
  have hval : ∀ (j : Nat) t v, Try.f7.params[j]? = some t → args[j]? = some v → Value.okWide Try.prog W .any base t v := hval0
  have hW' := hW
  obtain ⟨p, q, hA0, hV, rfl, hfz, hnd⟩ := hW
  have hA : DataW.TrodAll enc Try.prog W 0 (fun _ => true) true Try.f7.params.toList args.toList ds p := hA0
  have hA1 := hA
  rw [Try.params7] at hA hval
  obtain ⟨v0, v1, v2, d0, d1, d2, p0, p1, p2, rfl, rfl, rfl, h0, h1, h2⟩ := trodAll_three hA
  obtain ⟨rfl, rfl⟩ := trodVars_none hV
  obtain ⟨w, m, rfl, hm⟩ := O9 (hval 0 25 v0 rfl rfl) h0
  obtain ⟨l, rfl⟩ := Mo (hval 1 27 v1 rfl rfl) h1
  obtain ⟨mt, mr, mb, nr, rfl⟩ := NB (hval 2 53 v2 rfl rfl) h2
  simp only [List.append_nil] at hW' hA1
  exact OF Try.laidOut (by kernel_rfl) rfl Try.underlying4 rfl rfl hW' hA1 (Oe hm)
theorem convoyMore_holds : Rows.ConvoyMoreSaid :=
  OpenClaim.holds_of_wide Ca Try.f7 rfl rfl rfl rfl rfl rfl rfl ⟨rfl, rfl, rfl, rfl, rfl⟩ rfl rfl rfl rfl rfl (by kernel_rfl) Try.func7 (by kernel_rfl)
    (of_decide_eq_true (by kernel_rfl)) (by unfold Func.isWrapper; rw [if_neg (of_decide_eq_false (by kernel_rfl))]; exact ⟨rfl, rfl⟩)
    (fun os started H enc _ => Lg os started H enc)
end Go.Proofs.Ytkdjkkimngeloaa
