/- Trimmed by wip/trim.py to what this claim rests on. -/
import Derived.Test.YtkdjkkimngeloaaZKc1
import Derived.Test.YtkdjkkimngeloaaZVe4
namespace Go.Proofs.Ytkdjkkimngeloaa
open Go.RowKit Go.ChangeShapes Go.WideShapes Go.Deep Go.Joins
set_option maxRecDepth 100000 in
set_option maxHeartbeats 800000 in
theorem Me {σ : Hp} {w : MW} {m : Mp} {l : Lry} {t : Int} {A : Option Addr} {n c : Nat} {j : List Leg} (h : MIn σ w m) (hj : RdS sJ σ A n j) : Ah Try.prog BU #[w.v, l.v, .agg #[.int .i64 t, .slice A n c]] σ fun v _ => v = .bool true := by
  refine Ek _ _ _ _ _ _ _ _ _ _ _ _ _ _ _ _ _ _ ?_
  unfold BO
  have hn := hj.lenJ
  refine Ag fun J3 h3 => Ag fun J87 h87 => ?_
  have k87 : ∀ (tt : Bool) τ, Hp.Sub σ τ → (tt = false → Km m [l.t] = false ∧ j.length ≤ 80) → J87 tt τ := by
    intro tt τ hsτ ht
    rw [h87]
    clear h87
    intro _
    refine Gw (fun _ => MZ (Ay rfl)) (fun et => ?_)
    obtain ⟨hf, hjl⟩ := ht et
    obtain ⟨hf, f1, f2, _⟩ := Sl hf
    rw [h3]
    clear h3 J3
    intro _
    refine AY D7 (Q3 (h.up hsτ) hf) ?_
    rintro v σ5 ⟨w1, s, rfl, q1, q2⟩
    refine ⟨_, _, _, _, _, _, rfl, ?_⟩
    have hs5 := (Au.sub q1).trans (Au.sub q2)
    have h1 : MIn σ5 w1 m := ⟨(Au.rd q1).sub (Au.sub q2), Au.rd q2⟩
    have hcap := Au.cap q2
    clear q1 q2
    have hj5 := hj.sub (hsτ.trans hs5)
    have h5 := h.up (hsτ.trans hs5)
    refine AY Fb (NA (l := l) (t := t) h1 hcap (by omega) (by omega)) ?_
    intro v σ9 hq
    have hp : ∃ A n c e, ∃ xs : List Int, v = .tuple #[.slice A n c, .int .i64 e] ∧ Hp.Sub σ5 σ9 ∧ RdS [.int .i64] σ9 A n xs ∧ List.length (α := Int) xs ≤ 4294967296 ∧ ((e = eT m [l] t ∧ ¬ e = 0 ∧ xs = []) ∨ (eT m [l] t = 0 ∧ ((e = 3 ∧ xs = [] ∧ Non m l t) ∨ (e = 0 ∧ ¬ Non m l t ∧ CrR m l t xs m.rs.length)))) := by
      rcases hq with ⟨e, rfl, rfl⟩ | ⟨e0, (⟨hn, rfl, rfl⟩ | ⟨hn, A, n, c, xs, rfl, ho, hc⟩)⟩
      · exact ⟨_, _, _, _, [], rfl, Hp.Sub.refl _, ⟨rfl, .inl rfl⟩, Nat.zero_le _, .inl ⟨rfl, e, rfl⟩⟩
      · exact ⟨_, _, _, _, [], rfl, Hp.Sub.refl _, ⟨rfl, .inl rfl⟩, Nat.zero_le _, .inr ⟨e0, .inl ⟨rfl, rfl, hn⟩⟩⟩
      · refine ⟨_, _, _, _, xs, rfl, ho.sub, ho.rd, ?_, .inr ⟨e0, .inr ⟨rfl, hn, hc⟩⟩⟩
        have hnd : List.Nodup (α := Int) xs := hc.1.imp fun h => by omega
        have := G8 (ys := (List.range m.rs.length).map Int.ofNat) hnd fun x hx => by
          obtain ⟨i, hi, rfl, _⟩ := (hc.2 x).1 hx
          exact List.mem_map.2 ⟨i, List.mem_range.2 hi, rfl⟩
        simp only [List.length_map, List.length_range] at this
        omega
    obtain ⟨A9, n9, c9, e, xs, rfl, hs9, hrd9, hxl, hcase⟩ := hp
    clear hq
    refine ⟨_, _, _, _, rfl, ?_⟩
    refine AY Fy (NY (l := l) (t := t) (h5.up hs9) hf) ?_
    rintro v σ13 ⟨hs13, hq⟩
    have hp : ∃ A n c e', ∃ ys : List Int, v = .tuple #[.slice A n c, .int .i64 e'] ∧ RdS [.int .i64] σ13 A n ys ∧ e' = e ∧ ys = xs := by
      rcases hq with ⟨e1, rfl⟩ | ⟨e0, (⟨hn, rfl⟩ | ⟨hn, A', n', c', ys, rfl, hr, hc⟩)⟩
      · rcases hcase with ⟨rfl, _, rfl⟩ | ⟨e0, _⟩
        · exact ⟨_, _, _, _, [], rfl, ⟨rfl, .inl rfl⟩, rfl, rfl⟩
        · exact absurd e0 e1
      · rcases hcase with ⟨rfl, e1, _⟩ | ⟨_, (⟨rfl, rfl, _⟩ | ⟨_, hn2, _⟩)⟩
        · exact absurd e0 e1
        · exact ⟨_, _, _, _, [], rfl, ⟨rfl, .inl rfl⟩, rfl, rfl⟩
        · exact absurd hn hn2
      · rcases hcase with ⟨rfl, e1, _⟩ | ⟨_, (⟨rfl, rfl, hn2⟩ | ⟨rfl, _, hc2⟩)⟩
        · exact absurd e0 e1
        · exact absurd hn2 hn
        · exact ⟨_, _, _, _, ys, rfl, hr, rfl, hc.uniq hc2⟩
    obtain ⟨A14, n14, c14, e', ys, rfl, hrd14, rfl, rfl⟩ := hp
    clear hq
    refine ⟨_, _, _, _, rfl, ?_⟩
    have hs59 := hs9.trans hs13
    refine Ag fun J18 h18 => Ag fun J80 h80 => ?_
    refine clB FM (OZ (hrd9.sub hs13) hrd14 hxl) ?_
    rw [decide_eq_true rfl]
    refine Fh (fun g => by cases g) (fun _ => ?_)
    have e1 : (!decide (e' = e')) = false := by simp
    rw [e1, h80]
    intro _
    refine DO ?_
    rw [h18]
    clear h80 h18 J80 J18 e1
    intro _
    refine TY (hj5.sub hs59) (by omega) fun A' n' c' σ20 hs20 hj20 => ?_
    refine AY DM (Lb (l := l) (h1.up (hs59.trans hs20)) (by omega) (by omega) hj20 (by omega)) ?_
    rintro v σ23 ⟨rfl, rfl⟩
    refine ⟨_, _, _, _, rfl, ?_⟩
    refine Ag fun J30 h30 => Ag fun J73 h73 => ?_
    have k73t : J73 true σ23 := by
      rw [h73]
      intro _
      exact EO (MZ (Ay rfl))
    refine Bi (fun _ => k73t) (fun ej => ?_)
    by_cases et : (Ke m l j).1 = t
    case neg =>
      rw [decide_eq_false et]
      exact k73t
    rw [decide_eq_true et, h73]
    clear h73 k73t J73
    intro _
    refine DO ?_
    rw [h30]
    clear h30 J30
    intro _
    obtain ⟨hm, hl, s0, g1, g2⟩ := SN ej
    have e1 : s0.tn = t := by rw [g2] at et; exact et
    have hnn : ¬ Non m l t := by
      have := (RI hm.ok hl g1).1
      rw [e1] at this
      exact this
    have hcr : e' = 0 ∧ CrR m l t ys m.rs.length := by
      rcases hcase with ⟨rfl, eb, _⟩ | ⟨_, (⟨_, _, hn2⟩ | ⟨rfl, _, hc2⟩)⟩
      · exact absurd eb (by
          intro hne
          apply hne
          have hec : eC m [l] = 0 := by
            by_cases ec : eC m [l] = 0
            · exact ec
            · unfold Ke at ej
              rw [if_neg ec] at ej
              exact absurd ej ec
          have ht : 0 ≤ t ∧ t < m.pk.length := by
            have := (Jw.ok hm.ok hl.bgn g1).1.t
            rw [e1] at this
            exact this
          rw [Td, if_pos hec, if_pos ht])
      · exact absurd hn2 hnn
      · exact ⟨rfl, hc2⟩
    obtain ⟨rfl, hcr⟩ := hcr
    refine Bi (fun g => absurd rfl g) (fun _ => ?_)
    have hry := hrd9.sub (hs13.trans hs20)
    have hrj := hj5.sub (hs59.trans hs20)
    have hn9 : n9 = List.length (α := Int) ys := hrd9.1
    refine Ag fun J33 h33 => ?_
    refine ⟨fun q i τ => ∃ k : Nat, q = List.length (α := Int) ys - k ∧ i = k ∧ k ≤ List.length (α := Int) ys ∧ τ = σ23, ⟨_, 0, rfl, rfl, Nat.zero_le _, rfl⟩, ?_⟩
    rintro q i τ ⟨k, rfl, rfl, hk, rfl⟩ _
    refine AX (fun hlt => ?_) (fun hge => ?_)
    · have hkl : k < List.length (α := Int) ys := by omega
      refine Ag fun J44 h44 => Ag fun J50 h50 => ?_
      have k50 : J50 true τ := by
        rw [h50]
        intro _
        refine Fh (fun g => by cases g) (fun _ => ?_)
        rw [h44]
        intro _
        exact AN (by omega) (Bu _ (by omega) ⟨k + 1, rfl, rfl, by omega, rfl⟩)
      clear h50 h44 J44
      obtain ⟨i, hi, hyk, hni⟩ := (hcr.2 ys[k]).1 (List.getElem_mem hkl)
      -- it is taken
      have htk : ∃ x ∈ j, x.1 = i := Classical.byContradiction fun hno => by
        have := (RI (RW hm.ok hi) (QT hl) (Ra hi g1 fun x hx e => hno ⟨x, hx, e⟩)).1
        rw [e1] at this
        exact this hni
      refine ⟨fun q tk p τ' => ∃ z : Nat, q = j.length - z ∧ p = z ∧ z ≤ j.length ∧ τ' = τ ∧ (tk = true ∨ ∀ y (_ : y < j.length), y < z → j[y].1 ≠ i), ⟨_, 0, rfl, rfl, Nat.zero_le _, rfl, .inr fun y _ hy => absurd hy (Nat.not_lt_zero _)⟩, ?_⟩
      rintro q tk p τ' ⟨z, rfl, rfl, hz, rfl, htz⟩ _
      refine AX (fun hlt2 => ?_) (fun hge2 => ?_)
      · have hzl : z < j.length := by omega
        refine Ag fun J60 h60 => ?_
        have k60 : ∀ tk' : Bool, (tk' = true ∨ ∀ y (_ : y < j.length), y < z + 1 → j[y].1 ≠ i) → J60 tk' τ' := by
          intro tk' htk'
          rw [h60]
          intro _
          exact AN (by omega) (Bu _ (by omega) ⟨z + 1, rfl, rfl, by omega, rfl, htk'⟩)
        clear h60
        refine Gw (fun _ => k60 _ (.inl rfl)) (fun ef => ?_)
        refine OC hrj (by omega) (by simpa using hzl) ?_
        simp only [Int.toNat_natCast]
        refine Lr hry (by omega) (by simpa using hkl) ?_
        simp only [Int.toNat_natCast]
        refine k60 _ ?_
        by_cases ez : j[z].1 = ys[k]
        · exact .inl (decide_eq_true ez)
        · refine .inr fun y hy hyz => ?_
          by_cases ey : y = z
          · subst ey
            intro e
            exact ez (e.trans hyk.symm)
          · rcases htz with htz | htz
            · rw [ef] at htz; cases htz
            · exact htz y hy (by omega)
      · rcases htz with htz | htz
        · rw [htz]
          exact k50
        · exfalso
          obtain ⟨x, hx, e⟩ := htk
          obtain ⟨y, hy, rfl⟩ := List.mem_iff_getElem.1 hx
          exact htz y hy (by omega) e
    · rw [h33]
      intro _
      exact MZ (Ay rfl)
  refine QD h fun σ5 hs5 => Gw (fun _ => k87 _ _ hs5 fun e => (by cases e)) (fun hf => k87 _ _ hs5 fun e => ⟨hf, ?_⟩)
  have := of_decide_eq_false e
  omega
set_option maxRecDepth 100000 in
theorem Kg (os : Os) (started : os.Started) (H : Type) (enc : TypeId × Value → H) :
    ReturnsInHanded {} Try.checked os BU .any (Rows.convoyCriticalSpec.pre6 enc Try.prog Try.f13 Rows.convoyCriticalRow.domain false) (Rows.convoyCriticalSpec.post enc Try.prog Try.f13 false true false false) := by
  refine returnsInHanded_of_change (C := Try.checked) Try.own started (by kernel_rfl) Try.func13
    (ChangeSpec.witness6 (enc := enc) (C := Try.checked) false ⟨#[], #[.agg #[.slice none 0 0, .slice none 0 0], .agg #[.int .i64 0, .int .i64 0, .int .i64 0, .int .i64 0, .int .i64 0, .int .i64 0], .agg #[.int .i64 0, .slice none 0 0]], []⟩ 8 (by kernel_rfl) (by kernel_rfl) (by kernel_rfl) (by kernel_rfl)) ?_
  intro W base args ds gs before hval0 hW _ _
  have hval : ∀ (j : Nat) t v, Try.f13.params[j]? = some t → args[j]? = some v → Value.okWide Try.prog W .any base t v := hval0
  have hW' := hW
  obtain ⟨p, q, hA0, hV, rfl, hfz, hnd⟩ := hW
  have hA : DataW.TrodAll enc Try.prog W 0 (fun _ => true) true Try.f13.params.toList args.toList ds p := hA0
  have hA1 := hA
  rw [Try.params13] at hA hval
  obtain ⟨v0, v1, v2, d0, d1, d2, p0, p1, p2, rfl, rfl, rfl, h0, h1, h2⟩ := trodAll_three hA
  obtain ⟨rfl, rfl⟩ := trodVars_none hV
  obtain ⟨w, m, rfl, hm⟩ := R6 (hval 0 25 v0 rfl rfl) h0
  obtain ⟨l, rfl⟩ := Oi (hval 1 27 v1 rfl rfl) h1
  obtain ⟨t, jA, jn, jc, j, rfl, hjc, hj⟩ := Qr (hval 2 70 v2 rfl rfl) h2
  simp only [List.append_nil] at hW' hA1
  exact QF Try.laidOut (by kernel_rfl) rfl Try.underlying4 rfl rfl hW' hA1 (Me hm hj)
theorem convoyCritical_holds : Rows.ConvoyCriticalSaid :=
  OpenClaim.holds_of_wide BU Try.f13 rfl rfl rfl rfl rfl rfl rfl ⟨rfl, rfl, rfl, rfl, rfl⟩ rfl rfl rfl rfl rfl (by kernel_rfl) Try.func13 (by kernel_rfl)
    (of_decide_eq_true (by kernel_rfl)) (by unfold Func.isWrapper; rw [if_neg (of_decide_eq_false (by kernel_rfl))]; exact ⟨rfl, rfl⟩)
    (fun os started H enc _ => Kg os started H enc)
end Go.Proofs.Ytkdjkkimngeloaa
