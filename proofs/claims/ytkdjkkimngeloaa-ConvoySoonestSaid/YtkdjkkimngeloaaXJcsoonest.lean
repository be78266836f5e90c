/- Trimmed by wip/trim.py to what this claim rests on. -/
import Derived.Test.YtkdjkkimngeloaaXKc1
import Derived.Test.YtkdjkkimngeloaaXVd4
namespace Go.Proofs.Ytkdjkkimngeloaa
open Go.RowKit Go.ChangeShapes Go.WideShapes Go.Deep Go.Joins
set_option maxRecDepth 100000 in
theorem LN {σ : Hp} {w : MW} {m : Mp} {l : Lry} {t : Int} {A : Option Addr} {n c : Nat} {j : List Leg} (h : MIn σ w m) (hj : RdS sJ σ A n j) : Ae Try.prog BJ #[w.v, l.v, .agg #[.int .i64 t, .slice A n c]] σ fun v _ => v = .bool true := by
  refine Ec _ _ _ _ _ _ _ _ _ _ _ _ _ _ _ _ _ _ ?_
  unfold BG
  have hn := hj.lenJ
  refine Ah fun J3 h3 => Ah fun J82 h82 => ?_
  have k82 : ∀ (tt : Bool) τ, Hp.Sub σ τ → (tt = false → IA m [l.t] = false ∧ j.length ≤ 80) → J82 tt τ := by
    intro tt τ hsτ ht
    rw [h82]
    clear h82
    intro _
    refine ID (fun _ => IH (Az rfl)) (fun et => ?_)
    obtain ⟨hf, hjl⟩ := ht et
    obtain ⟨hf, f1, f2, _⟩ := Qj hf
    rw [h3]
    clear h3 J3
    intro _
    refine Bl Gs (Q8 (h.up hsτ) hf) ?_
    rintro v σ5 ⟨w1, s, rfl, q1, q2⟩
    refine ⟨_, _, _, _, _, _, rfl, ?_⟩
    have hs5 := (Au.sub q1).trans (Au.sub q2)
    have h1 : MIn σ5 w1 m := ⟨(Au.rd q1).sub (Au.sub q2), Au.rd q2⟩
    clear q1 q2
    have hj5 := hj.sub (hsτ.trans hs5)
    refine Bl CT (LF (l := l) (t := t) h1 (by omega) (by omega)) ?_
    intro v σ9 hq
    have hp : ∃ A n c e, ∃ js : List Leg, v = .tuple #[.slice A n c, .int .i64 e] ∧ Hp.Sub σ5 σ9 ∧ RdS sJ σ9 A n js ∧ ((¬ e = 0 ∧ ¬ e = 3) ∨ (eT m [l] t = 0 ∧ ((e = 3 ∧ Non m l t) ∨ (e = 0 ∧ ∃ a, Bst m l t (a, js))))) := by
      rcases hq with ⟨e, rfl, rfl⟩ | ⟨e0, (⟨hn, rfl, rfl⟩ | ⟨A, n, c, js, a, rfl, ho, hb⟩)⟩
      · exact ⟨_, _, _, _, [], rfl, Hp.Sub.refl _, ⟨rfl, .inl rfl⟩, .inl ⟨e, Rb⟩⟩
      · exact ⟨_, _, _, _, [], rfl, Hp.Sub.refl _, ⟨rfl, .inl rfl⟩, .inr ⟨e0, .inl ⟨rfl, hn⟩⟩⟩
      · exact ⟨_, _, _, _, js, rfl, ho.sub, ho.rd, .inr ⟨e0, .inr ⟨rfl, a, hb⟩⟩⟩
    obtain ⟨A9, n9, c9, e, js, rfl, hs9, hrd9, hcase⟩ := hp
    clear hq
    refine ⟨_, _, _, _, rfl, ?_⟩
    refine Bl FE (O8 (l := l) (h1.up hs9) (by omega) (by omega)) ?_
    intro v σ13 hq
    have hp : ∃ A n c e', ∃ xs : List Int, v = .tuple #[.slice A n c, .int .i64 e'] ∧ Hp.Sub σ9 σ13 ∧ RdS [.int .i64] σ13 A n xs ∧ (eC m [l] = 0 → e' = 0 ∧ Rr m l xs m.pk.length) := by
      rcases hq with ⟨e, rfl, rfl⟩ | ⟨e0, hm, hl, A, n, c, xs, rfl, ho, hx⟩
      · exact ⟨_, _, _, _, [], rfl, Hp.Sub.refl _, ⟨rfl, .inl rfl⟩, fun e0 => absurd e0 e⟩
      · exact ⟨_, _, _, _, xs, rfl, ho.sub, ho.rd, fun _ => ⟨rfl, hx⟩⟩
    obtain ⟨A13, n13, c13, e', xs, rfl, hs13, hrd13, hreach⟩ := hp
    clear hq
    refine ⟨_, _, _, _, rfl, ?_⟩
    have hx5 := hs9.trans hs13
    refine Ah fun J18 h18 => Ah fun J75 h75 => ?_
    have k75t : J75 true σ13 := by
      rw [h75]
      intro _
      exact Gi (IH (Az rfl))
    rcases hcase with ⟨g1, g2⟩ | ⟨e0, hcase⟩
    · refine Bw (fun _ => ?_) (fun g => absurd g g1)
      rw [decide_eq_false g2]
      exact k75t
    have k75 : J75 false σ13 := by
      rw [h75]
      clear h75 k75t J75
      intro _
      refine Et ?_
      rw [h18]
      clear h18 J18
      intro _
      obtain ⟨hm, hl, ht0, ht1⟩ := Mz e0
      have ec := Rw e0
      obtain ⟨rfl, hx⟩ := hreach ec
      have hxl := hx.1
      have hy := hl.y
      have hti : t.toNat < xs.length := by omega
      have etn : ((t.toNat : Nat) : Int) = t := Int.toNat_of_nonneg ht0
      have hxt := hx.2 t.toNat hti
      rw [etn] at hxt
      have rdx : ∀ {τ} {K : Int → Prop}, Hp.Sub σ13 τ → K xs[t.toNat] → ix A13 n13 t 1 fun b a => ldI τ .i64 b a K := fun hs hk => MS (hrd13.sub hs) ht0 hti hk
      have hn13 : n13 = xs.length := hrd13.1
      generalize xs[t.toNat] = y at hxt rdx
      refine Ah fun J21 h21 => Ah fun J68 h68 => ?_
      have k68 : J68 false σ13 := by
        rw [h68]
        clear h68 J68
        intro _
        refine Et ?_
        rw [h21]
        clear h21 J21
        intro _
        refine Ah fun J24 h24 => ?_
        have k24 : ∀ τ, Hp.Sub σ13 τ → J24 τ := by
          intro τ hs
          rw [h24]
          clear h24 J24
          intro _
          refine OO (hj5.sub (hx5.trans hs)) (by omega) fun A' n' c' σ26 hs26 hj26 => ?_
          refine Bl BM (FI (l := l) (h1.up (hx5.trans (hs.trans hs26))) (by omega) (by omega) hj26 (by omega)) ?_
          rintro v σ29 ⟨rfl, rfl⟩
          refine ⟨_, _, _, _, rfl, ?_⟩
          refine Ah fun J36 h36 => Ah fun J45 h45 => ?_
          have k45t : J45 true σ29 := by
            rw [h45]
            intro _
            exact Gi (IH (Az rfl))
          refine Bw (fun _ => k45t) (fun ej => ?_)
          by_cases et : (GA m l j).1 = t
          · rw [decide_eq_true et, h45]
            intro _
            refine Et ?_
            rw [h36]
            intro _
            obtain ⟨_, _, s, g1, g2⟩ := Qb ej
            obtain ⟨g3, g4⟩ := Rs hm.ok hl g1
            have e1 : s.tn = t := by rw [g2] at et; exact et
            have e2 : (GA m l j).2.1 = s.sn := by rw [g2]
            rw [e1] at g3 g4
            have e00 : e = 0 := by
              rcases hcase with ⟨_, hn⟩ | ⟨e00, _⟩
              · exact absurd hn g3
              · exact e00
            refine Bq (fun _ => rdx (hs.trans hs26) ?_) (fun g => absurd e00 g)
            rcases hxt with ⟨hn, _⟩ | ⟨cc, hsn, ey⟩
            · exact absurd hn g3
            · have := g4 cc hsn
              exact Bq (fun _ => IH (Az rfl)) (fun g => absurd (show y ≤ (GA m l j).2.1 by omega) g)
          · rw [decide_eq_false et]
            exact k45t
        refine Bq (fun e00 => ?_) (fun _ => k24 _ (Hp.Sub.refl _))
        obtain ⟨a, hb⟩ : ∃ a, Bst m l t (a, js) := by
          rcases hcase with ⟨e3, _⟩ | ⟨_, hb⟩
          · rw [e00] at e3; cases e3
          · exact hb
        have hjl3 := hb.len hm.ok hl
        refine OO (hrd9.sub hs13) hjl3 fun A' n' c' σ51 hs51 hj51 => ?_
        refine Bl BM (FI (l := l) (h1.up (hx5.trans hs51)) (by omega) (by omega) hj51 hjl3) ?_
        rintro v σ54 ⟨rfl, rfl⟩
        refine ⟨_, _, _, _, rfl, ?_⟩
        have hck := hb.chk ec f1
        rw [hck]
        refine Ah fun J61 h61 => ?_
        refine Bw (fun g => absurd rfl g) (fun _ => Bw (fun g => absurd rfl g) (fun _ => rdx hs51 ?_))
        have ey : a = y := by
          rcases hxt with ⟨hn, _⟩ | ⟨cc, hsn, ey⟩
          · exact absurd hn hb.nn
          · have hsb := hb.sn
            obtain ⟨⟨p1, p2, p3⟩, q1⟩ := hsn
            obtain ⟨⟨p4, p5, p6⟩, q2⟩ := hsb
            have a1 := q1 _ _ p5 p6
            have a2 := q2 _ _ p2 p3
            unfold clt at a1 a2
            dsimp only at a1 a2
            omega
        show J61 (!decide (a = y)) σ54
        rw [decide_eq_true ey, h61]
        intro _
        exact Et (k24 _ hs51)
      refine Bw (fun g => absurd rfl g) (fun _ => Bq (fun g => absurd ht0 (by omega)) (fun _ => Bq (fun g => absurd ht1 (by omega)) (fun _ => rdx (Hp.Sub.refl _) ?_)))
      have eb : (decide (y < 0) == decide (e = 3)) = true := by
        rcases hcase with ⟨rfl, hn⟩ | ⟨rfl, a, hb⟩
        · rcases hxt with ⟨_, rfl⟩ | ⟨cc, hsn, _⟩
          · rfl
          · exact absurd hn hsn.nn
        · rcases hxt with ⟨hn, _⟩ | ⟨cc, hsn, ey⟩
          · exact absurd hn hb.nn
          · obtain ⟨⟨p1, p2, p3⟩, _⟩ := hsn
            have := p3.ok hm.ok hl
            rw [decide_eq_false (show ¬ y < 0 by omega)]
            rfl
      rw [eb]
      exact k68
    refine Bw (fun _ => ?_) (fun _ => k75)
    rcases hcase with ⟨rfl, _⟩ | ⟨rfl, _⟩
    · exact k75
    · rename_i g
      exact absurd rfl g
  refine OK h fun σ5 hs5 => ID (fun _ => k82 _ _ hs5 fun e => (by cases e)) (fun hf => k82 _ _ hs5 fun e => ⟨hf, ?_⟩)
  have := of_decide_eq_false e
  omega
set_option maxRecDepth 100000 in
theorem Jb (os : Os) (started : os.Started) (H : Type) (enc : TypeId × Value → H) :
    ReturnsInHanded {} Try.checked os BJ .any (Rows.convoySoonestSpec.pre6 enc Try.prog Try.f11 Rows.convoySoonestRow.domain false) (Rows.convoySoonestSpec.post enc Try.prog Try.f11 false true false false) := by
  refine returnsInHanded_of_change (C := Try.checked) Try.own started (by kernel_rfl) Try.func11
    (ChangeSpec.witness6 (enc := enc) (C := Try.checked) false ⟨#[], #[.agg #[.slice none 0 0, .slice none 0 0], .agg #[.int .i64 0, .int .i64 0, .int .i64 0, .int .i64 0, .int .i64 0, .int .i64 0], .agg #[.int .i64 0, .slice none 0 0]], []⟩ 8 (by kernel_rfl) (by kernel_rfl) (by kernel_rfl) (by kernel_rfl)) ?_
  intro W base args ds gs before hval0 hW _ _
  have hval : ∀ (j : Nat) t v, Try.f11.params[j]? = some t → args[j]? = some v → Value.okWide Try.prog W .any base t v := hval0
  have hW' := hW
  obtain ⟨p, q, hA0, hV, rfl, hfz, hnd⟩ := hW
  have hA : DataW.TrodAll enc Try.prog W 0 (fun _ => true) true Try.f11.params.toList args.toList ds p := hA0
  have hA1 := hA
  rw [Try.params11] at hA hval
  obtain ⟨v0, v1, v2, d0, d1, d2, p0, p1, p2, rfl, rfl, rfl, h0, h1, h2⟩ := trodAll_three hA
  obtain ⟨rfl, rfl⟩ := trodVars_none hV
  obtain ⟨w, m, rfl, hm⟩ := Ph (hval 0 25 v0 rfl rfl) h0
  obtain ⟨l, rfl⟩ := Mr (hval 1 27 v1 rfl rfl) h1
  obtain ⟨t, jA, jn, jc, j, rfl, hjc, hj⟩ := OD (hval 2 70 v2 rfl rfl) h2
  simp only [List.append_nil] at hW' hA1
  exact OM Try.laidOut (by kernel_rfl) rfl Try.underlying4 rfl rfl hW' hA1 (LN hm hj)
theorem convoySoonest_holds : Rows.ConvoySoonestSaid :=
  OpenClaim.holds_of_wide BJ Try.f11 rfl rfl rfl rfl rfl rfl rfl ⟨rfl, rfl, rfl, rfl, rfl⟩ rfl rfl rfl rfl rfl (by kernel_rfl) Try.func11 (by kernel_rfl)
    (of_decide_eq_true (by kernel_rfl)) (by unfold Func.isWrapper; rw [if_neg (of_decide_eq_false (by kernel_rfl))]; exact ⟨rfl, rfl⟩)
    (fun os started H enc _ => Jb os started H enc)
end Go.Proofs.Ytkdjkkimngeloaa
