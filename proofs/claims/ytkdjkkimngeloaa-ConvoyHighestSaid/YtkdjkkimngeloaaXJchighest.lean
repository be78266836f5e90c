/- Trimmed by wip/trim.py to what this claim rests on. -/
import Derived.Test.YtkdjkkimngeloaaXKc1
import Derived.Test.YtkdjkkimngeloaaXVd3
namespace Go.Proofs.Ytkdjkkimngeloaa
open Go.RowKit Go.ChangeShapes Go.WideShapes Go.Deep Go.Joins
set_option maxRecDepth 100000 in
theorem Mf {σ : Hp} {w : MW} {m : Mp} {l : Lry} {t : Int} (h : MIn σ w m) : Ae Try.prog BM #[w.v, l.v, .int .i64 t] σ fun v _ => v = .bool true := by
  refine D6 _ _ _ _ _ _ _ _ _ _ _ _ _ _ _ ?_
  unfold BP
  refine PO h fun σ5 hs5 => Hx (fun _ => JA (Ax rfl)) (fun hf => ?_)
  obtain ⟨hf, f1, f2, _⟩ := QY hf
  refine Nr (h.up hs5) hf fun w1 σ11 hs11 h1 => ?_
  have hs := hs5.trans hs11
  refine Bj CD (Ki (l := l) (t := t) h1 (by omega) (by omega)) ?_
  rintro v σ15 ⟨rfl, hq⟩
  have hp : ∃ a e, v = .tuple #[.int .i64 a, .int .i64 e] ∧ ((e = eT m [l] t ∧ ¬ e = 0 ∧ a = 0) ∨ (eT m [l] t = 0 ∧ ((e = 3 ∧ a = 0 ∧ HgN m l t) ∨ (e = 0 ∧ HgR m l t a)))) := by
    rcases hq with ⟨e, rfl⟩ | ⟨e0, (⟨hn, rfl⟩ | ⟨a, rfl, hh⟩)⟩
    · exact ⟨_, _, rfl, .inl ⟨rfl, e, rfl⟩⟩
    · exact ⟨_, _, rfl, .inr ⟨e0, .inl ⟨rfl, rfl, hn⟩⟩⟩
    · exact ⟨_, _, rfl, .inr ⟨e0, .inr ⟨rfl, hh⟩⟩⟩
  obtain ⟨a, e, rfl, hcase⟩ := hp
  clear hq
  refine ⟨_, _, rfl, ?_⟩
  refine Bj FB (NY (l := l) (t := t) (h.up hs) (by omega) (by omega)) ?_
  rintro v σ19 ⟨hs19, hq⟩
  have hp : v = .tuple #[.int .i64 a, .int .i64 e] := by
    rcases hq with ⟨e1, rfl⟩ | ⟨e0, (⟨hn, rfl⟩ | ⟨a', rfl, hh⟩)⟩
    · rcases hcase with ⟨rfl, _, rfl⟩ | ⟨e0, _⟩
      · rfl
      · exact absurd e0 e1
    · rcases hcase with ⟨rfl, e1, _⟩ | ⟨_, (⟨rfl, rfl, _⟩ | ⟨_, hh⟩)⟩
      · exact absurd e0 e1
      · rfl
      · exact (hn.no hh).elim
    · rcases hcase with ⟨rfl, e1, _⟩ | ⟨_, (⟨_, _, hn⟩ | ⟨rfl, hh2⟩)⟩
      · exact absurd e0 e1
      · exact (hn.no hh).elim
      · rw [hh.uniq hh2]
  subst hp
  clear hq
  refine ⟨_, _, rfl, ?_⟩
  refine Ag fun J24 h24 => Ag fun J50 h50 => ?_
  have hs2 := hs.trans hs19
  refine Br (fun g => absurd rfl g) (fun _ => ?_)
  have e1 : (!decide (e = e)) = false := by simp
  rw [e1, h50]
  intro _
  refine Ey ?_
  rw [h24]
  intro _
  refine Br (fun _ => JA (Ax rfl)) (fun ee => ?_)
  have hh : eT m [l] t = 0 ∧ HgR m l t a := by
    rcases hcase with ⟨rfl, e1, _⟩ | ⟨e0, (⟨rfl, _, _⟩ | ⟨_, hh⟩)⟩
    · exact absurd ee e1
    · cases ee
    · exact ⟨e0, hh⟩
  obtain ⟨e0, hh⟩ := hh
  obtain ⟨hm, hl, ht⟩ := JH e0
  have hla := Dw hm hl hh.1
  have ha : 0 ≤ a ∧ a ≤ 1000 := hla.h
  have ea : ∀ x : Int, 0 ≤ x ∧ x ≤ 1000 → eT m [l.up x] t = 0 := fun x hx => by
    have h2 : lrB m.pk.length (l.up x) = true := HL.2 ⟨hx, hl.w, hl.f, hl.y, hl.d, hl.s⟩
    unfold eT
    rw [if_pos (Mp.okB_iff.2 hm), if_neg (show ¬ 8 < [l.up x].length by simp), if_pos (by simp [h2]), if_pos ht]
  refine Nr (h.up hs2) hf fun w2 σ29 hs29 h2 => ?_
  refine Bj B0 (Kd (l := l.up a) (t := t) h2 (by omega) (by omega)) ?_
  rintro v σ33 (⟨e1, _⟩ | ⟨_, (⟨hn, _⟩ | ⟨A, n, c, js, b, rfl, ho, hb⟩)⟩)
  · exact absurd (ea a ha) e1
  · exact absurd hn hh.2.1
  refine ⟨_, _, _, _, rfl, Br (fun g => absurd rfl g) (fun _ => AT (by omega) ?_)⟩
  refine Nr (h.up (hs2.trans (hs29.trans ho.sub))) hf fun w3 σ38 hs38 h3 => ?_
  refine Bj B0 (Kd (l := l.up (a + 1)) (t := t) h3 (by omega) (by omega)) ?_
  rintro v σ42 (⟨e1, rfl, _⟩ | ⟨e1, (⟨_, rfl, _⟩ | ⟨A', n', c', js', b', rfl, ho', hb'⟩)⟩)
  · exact ⟨_, _, _, _, rfl, Br (fun _ => JA (Ax rfl)) (fun g => absurd g e1)⟩
  · exact ⟨_, _, _, _, rfl, Br (fun _ => JA (Ax rfl)) (fun g => by cases g)⟩
  · exfalso
    obtain ⟨_, hl2, _⟩ := JH e1
    have hl2h : 0 ≤ a + 1 ∧ a + 1 ≤ 1000 := hl2.h
    by_cases hft : l.fr = t
    · have : Non m (l.up 1000) t := hh.2.2 1000 (List.mem_cons_self ..) (by omega)
      exact this (l.fr, 0) (0, 0) hft (Rc.bgn (l := l.up 1000))
    · obtain ⟨y, g1, g2, g3⟩ := IY hft hb'.nn
      exact g3 (hh.2.2 y (List.mem_cons_of_mem _ g1) (by omega))
set_option maxRecDepth 100000 in
theorem KB (os : Os) (started : os.Started) (H : Type) (enc : TypeId × Value → H) :
    ReturnsInHanded {} Try.checked os BM .any (Rows.convoyHighestSpec.pre6 enc Try.prog Try.f4 Rows.convoyHighestRow.domain false) (Rows.convoyHighestSpec.post enc Try.prog Try.f4 false true false false) := by
  refine returnsInHanded_of_change (C := Try.checked) Try.own started (by kernel_rfl) Try.func4
    (ChangeSpec.witness6 (enc := enc) (C := Try.checked) false ⟨#[], #[.agg #[.slice none 0 0, .slice none 0 0], .agg #[.int .i64 0, .int .i64 0, .int .i64 0, .int .i64 0, .int .i64 0, .int .i64 0], .int .i64 0], []⟩ 8 (by kernel_rfl) (by kernel_rfl) (by kernel_rfl) (by kernel_rfl)) ?_
  intro W base args ds gs before hval0 hW _ _
  have hval : ∀ (j : Nat) t v, Try.f4.params[j]? = some t → args[j]? = some v → Value.okWide Try.prog W .any base t v := hval0
  have hW' := hW
  obtain ⟨p, q, hA0, hV, rfl, hfz, hnd⟩ := hW
  have hA : DataW.TrodAll enc Try.prog W 0 (fun _ => true) true Try.f4.params.toList args.toList ds p := hA0
  have hA1 := hA
  rw [Try.params4] at hA hval
  obtain ⟨v0, v1, v2, d0, d1, d2, p0, p1, p2, rfl, rfl, rfl, h0, h1, h2⟩ := trodAll_three hA
  obtain ⟨rfl, rfl⟩ := trodVars_none hV
  obtain ⟨w, m, rfl, hm⟩ := QR (hval 0 25 v0 rfl rfl) h0
  obtain ⟨l, rfl⟩ := No (hval 1 27 v1 rfl rfl) h1
  obtain ⟨t, rfl⟩ := QH (hval 2 3 v2 rfl rfl) h2
  simp only [List.append_nil] at hW' hA1
  exact Qu Try.laidOut (by kernel_rfl) rfl Try.underlying4 rfl rfl hW' hA1 (Mf hm)
theorem convoyHighest_holds : Rows.ConvoyHighestSaid :=
  OpenClaim.holds_of_wide BM Try.f4 rfl rfl rfl rfl rfl rfl rfl ⟨rfl, rfl, rfl, rfl, rfl⟩ rfl rfl rfl rfl rfl (by kernel_rfl) Try.func4 (by kernel_rfl)
    (of_decide_eq_true (by kernel_rfl)) (by unfold Func.isWrapper; rw [if_neg (of_decide_eq_false (by kernel_rfl))]; exact ⟨rfl, rfl⟩)
    (fun os started H enc _ => KB os started H enc)
end Go.Proofs.Ytkdjkkimngeloaa
