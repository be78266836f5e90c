/- Trimmed by wip/trim.py to what this claim rests on. -/
import Derived.Test.YtkdjkkimngeloaaYKc1
import Derived.Test.YtkdjkkimngeloaaYVd3
namespace Go.Proofs.Ytkdjkkimngeloaa
open Go.RowKit Go.ChangeShapes Go.WideShapes Go.Deep Go.Joins
set_option maxRecDepth 100000 in
theorem Oa {σ : Hp} {w : MW} {m : Mp} {l : Lry} {t : Int} (h : MIn σ w m) : Ae Try.prog BX #[w.v, l.v, .int .i64 t] σ fun v _ => v = .bool true := by
  refine EP _ _ _ _ _ _ _ _ _ _ _ _ _ _ _ ?_
  unfold BT
  refine Qh h fun σ5 hs5 => IU (fun _ => OT (Ax rfl)) (fun hf => ?_)
  obtain ⟨hf, f1, f2, _⟩ := RT hf
  refine SW (h.up hs5) hf fun w1 σ11 hs11 h1 => ?_
  have hs := hs5.trans hs11
  refine Bu C7 (M4 (l := l) (t := t) h1 (by omega) (by omega)) ?_
  intro v σ15 hq
  have hp : ∃ A n c e, ∃ js : List Leg, v = .tuple #[.slice A n c, .int .i64 e] ∧ Hp.Sub σ11 σ15 ∧ RdS sJ σ15 A n js ∧ ((e = eT m [l] t ∧ ¬ e = 0 ∧ js = []) ∨ (eT m [l] t = 0 ∧ ((e = 3 ∧ js = [] ∧ Non m l t) ∨ (e = 0 ∧ js.length ≤ 4294967296 ∧ ∃ a, Bst m l t (a, js))))) := by
    rcases hq with ⟨e, rfl, rfl⟩ | ⟨e0, (⟨hn, rfl, rfl⟩ | ⟨A, n, c, js, a, rfl, ho, hb⟩)⟩
    · exact ⟨_, _, _, _, [], rfl, Hp.Sub.refl _, ⟨rfl, .inl rfl⟩, .inl ⟨rfl, e, rfl⟩⟩
    · exact ⟨_, _, _, _, [], rfl, Hp.Sub.refl _, ⟨rfl, .inl rfl⟩, .inr ⟨e0, .inl ⟨rfl, rfl, hn⟩⟩⟩
    · obtain ⟨hm, hl, _⟩ := Ls e0
      exact ⟨_, _, _, _, js, rfl, ho.sub, ho.rd, .inr ⟨e0, .inr ⟨rfl, hb.len hm.ok hl, a, hb⟩⟩⟩
  obtain ⟨A, n, c, e, js, rfl, hs15, hrd, hcase⟩ := hp
  clear hq
  refine ⟨_, _, _, _, rfl, ?_⟩
  refine Bu GA (Qf (l := l) (t := t) (h.up (hs.trans hs15)) (by omega) (by omega)) ?_
  rintro v σ19 ⟨hs19, hq⟩
  have hp : ∃ A n c e', ∃ js' : List Leg, v = .tuple #[.slice A n c, .int .i64 e'] ∧ RdS sJ σ19 A n js' ∧ e' = e ∧ js' = js := by
    rcases hq with ⟨e1, rfl⟩ | ⟨e0, (⟨hn, rfl⟩ | ⟨A', n', c', js', a', rfl, hr, hb⟩)⟩
    · rcases hcase with ⟨rfl, _, rfl⟩ | ⟨e0, _⟩
      · exact ⟨_, _, _, _, [], rfl, ⟨rfl, .inl rfl⟩, rfl, rfl⟩
      · exact absurd e0 e1
    · rcases hcase with ⟨rfl, e1, _⟩ | ⟨_, (⟨rfl, rfl, _⟩ | ⟨_, _, a, hb⟩)⟩
      · exact absurd e0 e1
      · exact ⟨_, _, _, _, [], rfl, ⟨rfl, .inl rfl⟩, rfl, rfl⟩
      · exact absurd hn hb.nn
    · rcases hcase with ⟨rfl, e1, _⟩ | ⟨_, (⟨rfl, rfl, hn⟩ | ⟨rfl, _, a, hb2⟩)⟩
      · exact absurd e0 e1
      · exact absurd hn hb.nn
      · exact ⟨_, _, _, _, js', rfl, hr, rfl, congrArg Prod.snd (hb.uniq hb2)⟩
  obtain ⟨A', n', c', e', js', rfl, hrd', rfl, rfl⟩ := hp
  refine ⟨_, _, _, _, rfl, ?_⟩
  have hlen : List.length (α := Leg) js' ≤ 4294967296 := by
    rcases hcase with ⟨_, _, rfl⟩ | ⟨_, (⟨_, rfl, _⟩ | ⟨_, hl, _⟩)⟩
    · exact Nat.zero_le _
    · exact Nat.zero_le _
    · exact hl
  refine clB Fp (NZ (hrd.sub hs19) hrd' hlen) ?_
  rw [decide_eq_true rfl]
  exact Eu (Bb (fun _ => OT (Ax rfl)) (fun h => absurd rfl h))
set_option maxRecDepth 100000 in
theorem KM (os : Os) (started : os.Started) (H : Type) (enc : TypeId × Value → H) :
    ReturnsInHanded {} Try.checked os BX .any (Rows.convoyDrivesSpec.pre6 enc Try.prog Try.f3 Rows.convoyDrivesRow.domain false) (Rows.convoyDrivesSpec.post enc Try.prog Try.f3 false true false false) := by
  refine returnsInHanded_of_change (C := Try.checked) Try.own started (by kernel_rfl) Try.func3
    (ChangeSpec.witness6 (enc := enc) (C := Try.checked) false ⟨#[], #[.agg #[.slice none 0 0, .slice none 0 0], .agg #[.int .i64 0, .int .i64 0, .int .i64 0, .int .i64 0, .int .i64 0, .int .i64 0], .int .i64 0], []⟩ 8 (by kernel_rfl) (by kernel_rfl) (by kernel_rfl) (by kernel_rfl)) ?_
  intro W base args ds gs before hval0 hW _ _
  have hval : ∀ (j : Nat) t v, Try.f3.params[j]? = some t → args[j]? = some v → Value.okWide Try.prog W .any base t v := hval0
  have hW' := hW
  obtain ⟨p, q, hA0, hV, rfl, hfz, hnd⟩ := hW
  have hA : DataW.TrodAll enc Try.prog W 0 (fun _ => true) true Try.f3.params.toList args.toList ds p := hA0
  have hA1 := hA
  rw [Try.params3] at hA hval
  obtain ⟨v0, v1, v2, d0, d1, d2, p0, p1, p2, rfl, rfl, rfl, h0, h1, h2⟩ := trodAll_three hA
  obtain ⟨rfl, rfl⟩ := trodVars_none hV
  obtain ⟨w, m, rfl, hm⟩ := QI (hval 0 25 v0 rfl rfl) h0
  obtain ⟨l, rfl⟩ := NT (hval 1 27 v1 rfl rfl) h1
  obtain ⟨t, rfl⟩ := Qg (hval 2 3 v2 rfl rfl) h2
  simp only [List.append_nil] at hW' hA1
  exact QO Try.laidOut (by kernel_rfl) rfl Try.underlying4 rfl rfl hW' hA1 (Oa hm)
theorem convoyDrives_holds : Rows.ConvoyDrivesSaid :=
  OpenClaim.holds_of_wide BX Try.f3 rfl rfl rfl rfl rfl rfl rfl ⟨rfl, rfl, rfl, rfl, rfl⟩ rfl rfl rfl rfl rfl (by kernel_rfl) Try.func3 (by kernel_rfl)
    (of_decide_eq_true (by kernel_rfl)) (by unfold Func.isWrapper; rw [if_neg (of_decide_eq_false (by kernel_rfl))]; exact ⟨rfl, rfl⟩)
    (fun os started H enc _ => KM os started H enc)
end Go.Proofs.Ytkdjkkimngeloaa
