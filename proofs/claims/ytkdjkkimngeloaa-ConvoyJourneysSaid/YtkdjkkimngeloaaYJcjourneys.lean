/- Trimmed by wip/trim.py to what this claim rests on. -/
import Derived.Test.YtkdjkkimngeloaaYKc1
import Derived.Test.YtkdjkkimngeloaaYVd2
namespace Go.Proofs.Ytkdjkkimngeloaa
open Go.RowKit Go.ChangeShapes Go.WideShapes Go.Deep Go.Joins
set_option maxRecDepth 100000 in
theorem Lj {σ : Hp} {w : MW} {m : Mp} {l : Lry} {A : Option Addr} {n c : Nat} {j : List Leg} (h : MIn σ w m) (hj : RdS sJ σ A n j) : Ag Try.prog BA #[w.v, l.v, .slice A n c] σ fun v _ => v = .bool true := by
  refine DO _ _ _ _ _ _ _ _ _ _ _ _ _ _ _ _ _ ?_
  unfold Bz
  have hn := hj.lenJ
  refine Al fun J3 h3 => Al fun J28 h28 => ?_
  have k28 : ∀ t : Bool, (t = false → M5 m = false ∧ j.length ≤ 80) → J28 t σ := by
    intro t ht
    rw [h28]
    intro _
    refine H2 (fun _ => N1 (Ax rfl)) (fun et => ?_)
    obtain ⟨hf, hjl⟩ := ht et
    obtain ⟨f1, f2⟩ := NI hf
    rw [h3]
    intro _
    refine Rg h hf fun w1 σ5 hs5 h1 => ?_
    refine Rx (hj.sub hs5) (by omega) fun A' n' c' σ9 hs9 hj9 => ?_
    refine Bx Dn (Jz (l := l) (h1.up hs9) (by omega) (by omega) hj9 (by omega)) ?_
    rintro v σ12 ⟨rfl, rfl⟩
    refine ⟨_, _, _, _, rfl, ?_⟩
    have hs := hs5.trans hs9
    refine Bx DF (IQ (l := l) (h.up hs) (by omega) (by omega) (hj.sub hs) (by omega)) ?_
    rintro v σ18 ⟨rfl, rfl⟩
    refine ⟨_, _, _, _, rfl, ?_⟩
    refine Br (fun _ => ?_) (fun h => absurd rfl h)
    refine Br (fun _ => ?_) (fun h => absurd rfl h)
    refine Br (fun _ => ?_) (fun h => absurd rfl h)
    exact Br (fun _ => N1 (Ax rfl)) (fun h => absurd rfl h)
  refine clB Hu (RV h) (H2 (fun _ => k28 _ fun e => (by cases e)) (fun hf => k28 _ fun e => ⟨hf, ?_⟩))
  have := of_decide_eq_false e
  omega
set_option maxRecDepth 100000 in
theorem IY (os : Os) (started : os.Started) (H : Type) (enc : TypeId × Value → H) :
    ReturnsInHanded {} Try.checked os BA .any (Rows.convoyJourneysSpec.pre6 enc Try.prog Try.f8 Rows.convoyJourneysRow.domain false) (Rows.convoyJourneysSpec.post enc Try.prog Try.f8 false true false false) := by
  refine returnsInHanded_of_change (C := Try.checked) Try.own started (by kernel_rfl) Try.func8
    (ChangeSpec.witness6 (enc := enc) (C := Try.checked) false ⟨#[], #[.agg #[.slice none 0 0, .slice none 0 0], .agg #[.int .i64 0, .int .i64 0, .int .i64 0, .int .i64 0, .int .i64 0, .int .i64 0], .slice none 0 0], []⟩ 8 (by kernel_rfl) (by kernel_rfl) (by kernel_rfl) (by kernel_rfl)) ?_
  intro W base args ds gs before hval0 hW _ _
  have hval : ∀ (j : Nat) t v, Try.f8.params[j]? = some t → args[j]? = some v → Value.okWide Try.prog W .any base t v := hval0
  have hW' := hW
  obtain ⟨p, q, hA0, hV, rfl, hfz, hnd⟩ := hW
  have hA : DataW.TrodAll enc Try.prog W 0 (fun _ => true) true Try.f8.params.toList args.toList ds p := hA0
  have hA1 := hA
  rw [Try.params8] at hA hval
  obtain ⟨v0, v1, v2, d0, d1, d2, p0, p1, p2, rfl, rfl, rfl, h0, h1, h2⟩ := trodAll_three hA
  obtain ⟨rfl, rfl⟩ := trodVars_none hV
  obtain ⟨w, m, rfl, hm⟩ := PX (hval 0 25 v0 rfl rfl) h0
  obtain ⟨l, rfl⟩ := Nl (hval 1 27 v1 rfl rfl) h1
  obtain ⟨jA, jn, jc, j, rfl, hjc, hj⟩ := Oi (hval 2 32 v2 rfl rfl) h2
  simp only [List.append_nil] at hW' hA1
  exact P2 Try.laidOut (by kernel_rfl) rfl Try.underlying4 rfl rfl hW' hA1 (Lj hm hj)
theorem convoyJourneys_holds : Rows.ConvoyJourneysSaid :=
  OpenClaim.holds_of_wide BA Try.f8 rfl rfl rfl rfl rfl rfl rfl ⟨rfl, rfl, rfl, rfl, rfl⟩ rfl rfl rfl rfl rfl (by kernel_rfl) Try.func8 (by kernel_rfl)
    (of_decide_eq_true (by kernel_rfl)) (by unfold Func.isWrapper; rw [if_neg (of_decide_eq_false (by kernel_rfl))]; exact ⟨rfl, rfl⟩)
    (fun os started H enc _ => IY os started H enc)
end Go.Proofs.Ytkdjkkimngeloaa
