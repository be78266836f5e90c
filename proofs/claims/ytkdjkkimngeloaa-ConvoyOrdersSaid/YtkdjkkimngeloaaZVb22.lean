/- Trimmed by wip/trim.py to what this claim rests on. -/
import Derived.Test.YtkdjkkimngeloaaZVb21
namespace Go.Proofs.Ytkdjkkimngeloaa
open Go.RowKit
section
variable {σ : Hp}
set_option maxRecDepth 100000 in
theorem PR {w : MW} {m : Mp} {t g : Int} {A : Option Addr} {n c : Nat} {ls : List LrT} (h : MIn σ w m) (hp : m.pk.length ≤ 4294967296) (hr : m.rs.length ≤ 4294967296) (hl : RdS sL σ A n ls) (hll : ls.length ≤ 4294967296) :
    Ag Try.prog E7 #[w.v, .slice A n c, .int .i64 t, .int .i64 g] σ fun v σ' => Hp.Sub σ σ' ∧
      ((¬ cE m (ls.map AJ) t g = 0 ∧ v = .tuple #[.slice none 0 0, .int .i64 (cE m (ls.map AJ) t g)]) ∨ (cE m (ls.map AJ) t g = 0 ∧ ((OU m (ls.map AJ) t ∧ v = .tuple #[.slice none 0 0, .int .i64 3]) ∨
        ∃ A' n' c' js ar out, v = .tuple #[.slice A' n' c', .int .i64 0] ∧ RdS [.int .i64] σ' A' n' out ∧ D0 m (ls.map AJ) t js ar ∧ Ez ar g (Eg ls.length) out))) := by
  refine Hw _ _ _ _ _ _ _ _ _ _ _ _ _ ?_
  unfold Ds
  have hn := hl.lenL
  refine AV C3 (Mc (t := t) (g := g) h hp hr hl hll) ?_
  rintro v σ2 (⟨e, rfl, hs⟩ | ⟨e0, (⟨hno, rfl, hs⟩ | ⟨b, A12, n12, c12, A14, n14, c14, xs, js, ar, s1, rfl, hst, hW, hxj, hfl⟩)⟩)
  · exact ⟨_, _, rfl, Bj (fun _ => Av ⟨hs, .inl ⟨e, rfl⟩⟩) (fun g => absurd g e)⟩
  · exact ⟨_, _, rfl, Bj (fun _ => Av ⟨hs, .inr ⟨e0, .inl ⟨hno, rfl⟩⟩⟩) (fun g => by cases g)⟩
  refine ⟨_, _, rfl, Bj (fun g => absurd rfl g) (fun _ => ?_)⟩
  obtain ⟨e1, hg⟩ := O4 e0
  obtain ⟨hm, h8, hlo, ht⟩ := ML e1
  rw [List.length_map] at h8
  have hjl : js.length = ls.length := by rw [hfl.1, List.length_map]
  have hal : ar.length = ls.length := by rw [hfl.2.1, List.length_map]
  obtain ⟨gb, gx, ga, gs⟩ := hW.get
  rw [hn]
  refine AV H1 (Ud (n := ls.length) (by omega)) ?_
  rintro v σ12 ⟨A13, l13, c13, rfl, ho13⟩
  refine ⟨_, _, _, rfl, ?_⟩
  have hs13 : Hp.Sub σ2 σ12 := Aj.sub ho13
  refine AV B9 (MS (g := g) (hs13 _ _ gb) (ga.sub hs13) (Aj.rd ho13) (fun x hx => ?_) (by rw [Dj]; omega) (fun x hx => ?_) ⟨hg.1, by omega⟩) ?_
  · unfold Eg at hx
    obtain ⟨i, hi, rfl⟩ := List.mem_map.1 hx
    have := List.mem_range.1 hi
    show 0 ≤ (i : Int) ∧ (i : Int) < _
    omega
  · obtain ⟨i, hi, rfl⟩ := List.mem_iff_getElem.1 hx
    have := ((hfl.2.2 i (by rw [List.length_map]; omega) (by omega) hi).sml hm.ok (hlo _ (List.getElem_mem _))).1
    omega
  rintro v σ15 ⟨A16, l16, c16, (out : List Int), rfl, ho16, harr⟩
  exact ⟨_, _, _, rfl, Av ⟨(MD JN hst).trans (gs.trans (hs13.trans (Aj.sub ho16))), .inr ⟨e0, .inr ⟨_, _, _, js, ar, out, rfl, Aj.rd ho16, hfl, harr⟩⟩⟩⟩
end
end Go.Proofs.Ytkdjkkimngeloaa
