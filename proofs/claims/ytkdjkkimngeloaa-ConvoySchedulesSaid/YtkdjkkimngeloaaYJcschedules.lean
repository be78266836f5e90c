/- Trimmed by wip/trim.py to what this claim rests on. -/
import Derived.Test.YtkdjkkimngeloaaYKc1
import Derived.Test.YtkdjkkimngeloaaYVf1
namespace Go.Proofs.Ytkdjkkimngeloaa
open Go.RowKit Go.ChangeShapes Go.WideShapes Go.Deep Go.Joins
set_option maxRecDepth 100000 in
set_option maxHeartbeats 800000 in
theorem Ma {σ : Hp} {w : MW} {m : Mp} {A : Option Addr} {n c : Nat} {ls : List LrT} {t g : Int} (h : MIn σ w m) (hl : RdS sL σ A n ls) (_ : n ≤ c) : Ah Try.prog B4 #[w.v, .slice A n c, .agg #[.int .i64 t, .int .i64 g]] σ fun v _ => v = .bool true := by
  refine Es _ _ _ _ _ _ _ _ _ _ _ _ _ ?_
  unfold B0
  have hn := hl.lenL
  refine clB H6 (TY h hl) (JS (fun _ => Qz (Ay rfl)) (fun hf => ?_))
  obtain ⟨hf, f1, f2, f3, _⟩ := TA hf
  refine Ai fun J9 h9 => ?_
  have k9 : ∀ A1 n1 c1 e js τ, Hp.Sub σ τ → GT τ A1 n1 js → Mm m (ls.map AM) t g js e → J9 A1 n1 c1 e τ := by
    intro A1 n1 c1 e js τ hs hj hp
    rw [h9]
    clear h9 J9
    intro _
    refine Bf FK (N0 (t := t) (g := g) (h.up hs) (by omega) (by omega) (hl.sub hs)) ?_
    rintro v σ13 ⟨hs13, A2, n2, c2, e2, js2, rfl, hj2, hp2⟩
    obtain ⟨rfl, rfl⟩ := hp.uniq hp2
    refine ⟨_, _, _, _, rfl, ?_⟩
    have hn1 := hj.len
    have hj12 := hp.len
    rw [List.length_map] at hj12
    have hn2 := hj2.len
    have hjt := hj.up hs13
    have hst := hs.trans hs13
    refine Ai fun J18 h18 => Ai fun J330 h330 => ?_
    refine Bl (fun g => absurd (by omega) g) (fun _ => ?_)
    have e1 : (!decide (e = e)) = false := by simp
    rw [e1, h330]
    clear h330 J330
    intro _
    refine Et ?_
    rw [h18]
    clear h18 J18
    intro _
    refine Ai fun J21 h21 => ?_
    refine ⟨fun q i τ' => ∃ k : Nat, q = js.length - k ∧ i = k ∧ k ≤ js.length ∧ τ' = σ13, ⟨_, 0, rfl, rfl, Nat.zero_le _, rfl⟩, ?_⟩
    rintro q i τ' ⟨k, rfl, rfl, hk, rfl⟩ _
    refine Bc (fun hlt => ?_) (fun hge => ?_)
    · have hkl : k < js.length := by omega
      refine T8 hjt (by omega) (by simpa using hkl) fun A3 n3 c3 hjk => ?_
      refine T8 hj2 (by omega) (by simpa using hkl) fun A4 n4 c4 hjk2 => ?_
      refine clB F6 (Ps hjk hjk2 (by have := hp.small _ (List.getElem_mem (by simpa using hkl : ((k : Int)).toNat < js.length)); omega)) ?_
      exact Bl (fun g => absurd rfl g) (fun _ => AU (by omega) (Bs _ (by omega) ⟨k + 1, rfl, rfl, by omega, rfl⟩))
    · rw [h21]
      clear h21 J21
      intro _
      refine Ai fun J24 h24 => ?_
      have k24 : ∀ A5 n5 c5 e5 (out : List Int) τ5, Hp.Sub σ τ5 → RdS [.int .i64] τ5 A5 n5 out → Oo m (ls.map AM) t g out e5 → out.length ≤ 12 → J24 A5 n5 c5 e5 τ5 := by
        intro A5 n5 c5 e5 out τ5 hs5 hr5 hp5 hl5
        rw [h24]
        intro _
        refine Bf C3 (Oq (t := t) (g := g) (h.up hs5) (by omega) (by omega) (hl.sub hs5)) ?_
        rintro v σ28 ⟨hs28, A6, n6, c6, e6, (out6 : List Int), rfl, hr6, hp6⟩
        obtain ⟨rfl, rfl⟩ := hp5.uniq hp6
        refine ⟨_, _, _, _, rfl, ?_⟩
        refine clB Gn (P1 (hr5.sub hs28) hr6 (by omega)) ?_
        rw [decide_eq_true rfl]
        exact Bc (fun _ => Qz (Ay rfl)) (fun g => absurd rfl g)
      clear h24
      have kA : ∀ (w1 : MW) σ38 A42 n42 c42 σ43, Hp.Sub σ σ38 → MIn σ38 w1 m → Av 27 sL σ38 A42 n42 c42 ls σ43 →
          cl Try.prog (.func (.func C8) #[] #[]) #[w1.v, .slice A42 n42 c42, .int .i64 t, .int .i64 g] σ43 fun v44 σ45 => ∃ A46 : Option Addr, ∃ l46 : Nat, ∃ c46 : Nat, ∃ n47 : Int, (v44 = (.tuple #[(.slice A46 l46 c46), (.int .i64 n47)]) ∧ J24 A46 l46 c46 n47 σ45) := by
        intro w1 σ38 A42 n42 c42 σ43 hs38 h1 ho
        refine Bf Fj (N7 (t := t) (g := g) (h1.up (Av.sub ho)) (by omega) (by omega) (Av.rd ho) (by omega)) ?_
        rintro v σ45 ⟨hs45, A6, n6, c6, e6, (out6 : List Int), rfl, hr6, hp6⟩
        refine ⟨_, _, _, _, rfl, k24 _ _ _ _ out6 _ (hs38.trans ((Av.sub ho).trans hs45)) hr6 hp6 ?_⟩
        have := hp6.len
        rw [List.length_map] at this
        exact Nat.le_trans this f3
      have c2 : ∀ (w1 : MW) σ38, Hp.Sub σ σ38 → MIn σ38 w1 m → AL σ38 A n w1.pA w1.pn w1.pc w1.rA w1.rn w1.rc t g J24 := fun w1 σ38 hs38 h1 =>
        ⟨ls, hl.sub hs38, Bn (by show 0 + ls.length ≤ _; omega) fun A42 n42 c42 σ43 ho => kA w1 σ38 A42 n42 c42 σ43 hs38 h1 ho⟩
      have hc : ∀ {w1 : MW} {σ' : Hp}, Hp.Sub τ' σ' → MIn σ' w1 m → Hp.Sub σ σ' ∧ MIn σ' w1 m := fun a b => ⟨hst.trans a, b⟩
      have c3 : AH w.pA w.pn w.pc w.rA w.rn w.rc τ' A n t g J24 := Kr (h.up hst) hf fun w1 σ' hs' h1 => c2 w1 σ' (hst.trans hs') h1
      have c5 : AO w.pA w.pn w.pc w.rA w.rn w.rc τ' A n t g J24 := Kr (h.up hst) hf fun w1 σ' hs' h1 => ⟨c2 w1 σ' (hst.trans hs') h1, c2 w1 σ' (hst.trans hs') h1⟩
      have c8 : BO w.pA w.pn w.pc w.rA w.rn w.rc τ' A n t g J24 := Kr (h.up hst) hf fun w1 σ' hs' h1 => by
        have x := c2 w1 σ' (hst.trans hs') h1
        exact ⟨x, ⟨x, x⟩, x, x⟩
      exact ⟨c8, ⟨c8, ⟨c5, c3⟩, c5, c3⟩, ⟨c5, ⟨c5, c3⟩, c3, c3⟩, c5, ⟨c5, c3⟩, c3, c3⟩
  clear h9
  have kA : ∀ (w1 : MW) σ38 A42 n42 c42 σ43, Hp.Sub σ σ38 → MIn σ38 w1 m → Av 27 sL σ38 A42 n42 c42 ls σ43 →
      cl Try.prog (.func (.func C5) #[] #[]) #[w1.v, .slice A42 n42 c42, .int .i64 t, .int .i64 g] σ43 fun v44 σ45 => ∃ A46 : Option Addr, ∃ l46 : Nat, ∃ c46 : Nat, ∃ n47 : Int, (v44 = (.tuple #[(.slice A46 l46 c46), (.int .i64 n47)]) ∧ J9 A46 l46 c46 n47 σ45) := by
    intro w1 σ38 A42 n42 c42 σ43 hs38 h1 ho
    refine Bf Fp (N2 (t := t) (g := g) (h1.up (Av.sub ho)) (by omega) (by omega) (Av.rd ho) (by omega)) ?_
    rintro v σ45 ⟨hs45, A6, n6, c6, e6, js6, rfl, hr6, hp6⟩
    exact ⟨_, _, _, _, rfl, k9 _ _ _ _ js6 _ (hs38.trans ((Av.sub ho).trans hs45)) hr6 hp6⟩
  have c1 : ∀ (w1 : MW) σ38, Hp.Sub σ σ38 → MIn σ38 w1 m → AK σ38 A n w1.pA w1.pn w1.pc w1.rA w1.rn w1.rc t g J9 := fun w1 σ38 hs38 h1 =>
    ⟨ls, hl.sub hs38, Bn (by show 0 + ls.length ≤ _; omega) fun A42 n42 c42 σ43 ho => kA w1 σ38 A42 n42 c42 σ43 hs38 h1 ho⟩
  have c4 : AG w.pA w.pn w.pc w.rA w.rn w.rc σ A n t g J9 := Kr h hf fun w1 σ' hs' h1 => c1 w1 σ' hs' h1
  have c6 : AP w.pA w.pn w.pc w.rA w.rn w.rc σ A n t g J9 := Kr h hf fun w1 σ' hs' h1 => ⟨c1 w1 σ' hs' h1, c1 w1 σ' hs' h1⟩
  have c7 : BM w.pA w.pn w.pc w.rA w.rn w.rc σ A n t g J9 := Kr h hf fun w1 σ' hs' h1 => by
    have x := c1 w1 σ' hs' h1
    exact ⟨x, ⟨x, x⟩, x, x⟩
  exact ⟨c7, ⟨c7, ⟨c6, c4⟩, c6, c4⟩, ⟨c6, ⟨c6, c4⟩, c4, c4⟩, c6, ⟨c6, c4⟩, c4, c4⟩
set_option maxRecDepth 100000 in
theorem JT (os : Os) (started : os.Started) (H : Type) (enc : TypeId × Value → H) :
    ReturnsInHanded {} Try.checked os B4 .any (Rows.convoySchedulesSpec.pre6 enc Try.prog Try.f12 Rows.convoySchedulesRow.domain false) (Rows.convoySchedulesSpec.post enc Try.prog Try.f12 false true false false) := by
  refine returnsInHanded_of_change (C := Try.checked) Try.own started (by kernel_rfl) Try.func12
    (ChangeSpec.witness6 (enc := enc) (C := Try.checked) false ⟨#[], #[.agg #[.slice none 0 0, .slice none 0 0], .slice none 0 0, .agg #[.int .i64 0, .int .i64 0]], []⟩ 8 (by kernel_rfl) (by kernel_rfl) (by kernel_rfl) (by kernel_rfl)) ?_
  intro W base args ds gs before hval0 hW _ _
  have hval : ∀ (j : Nat) t v, Try.f12.params[j]? = some t → args[j]? = some v → Value.okWide Try.prog W .any base t v := hval0
  have hW' := hW
  obtain ⟨p, q, hA0, hV, rfl, hfz, hnd⟩ := hW
  have hA : DataW.TrodAll enc Try.prog W 0 (fun _ => true) true Try.f12.params.toList args.toList ds p := hA0
  have hA1 := hA
  rw [Try.params12] at hA hval
  obtain ⟨v0, v1, v2, d0, d1, d2, p0, p1, p2, rfl, rfl, rfl, h0, h1, h2⟩ := trodAll_three hA
  obtain ⟨rfl, rfl⟩ := trodVars_none hV
  obtain ⟨w, m, rfl, hm⟩ := SZ (hval 0 25 v0 rfl rfl) h0
  obtain ⟨lA, ln, lc, ls, rfl, hlc, hl⟩ := NC (hval 1 29 v1 rfl rfl) h1
  obtain ⟨t, g, rfl⟩ := SM (hval 2 62 v2 rfl rfl) h2
  simp only [List.append_nil] at hW' hA1
  exact Sz Try.laidOut (by kernel_rfl) rfl Try.underlying4 rfl rfl hW' hA1 (Ma hm hl hlc)
theorem convoySchedules_holds : Rows.ConvoySchedulesSaid :=
  OpenClaim.holds_of_wide B4 Try.f12 rfl rfl rfl rfl rfl rfl rfl ⟨rfl, rfl, rfl, rfl, rfl⟩ rfl rfl rfl rfl rfl (by kernel_rfl) Try.func12 (by kernel_rfl)
    (of_decide_eq_true (by kernel_rfl)) (by unfold Func.isWrapper; rw [if_neg (of_decide_eq_false (by kernel_rfl))]; exact ⟨rfl, rfl⟩)
    (fun os started H enc _ => JT os started H enc)
end Go.Proofs.Ytkdjkkimngeloaa
