/- Trimmed by wip/trim.py to what this claim rests on. -/
import Derived.Test.YtkdjkkimngeloaaZVe6
import Derived.Test.YtkdjkkimngeloaaZVd3
namespace Go.Proofs.Ytkdjkkimngeloaa
open Go.RowKit
def VO (m : Mp) (ls : List Lry) (t g : Int) (out : List Int) (e : Int) : Prop :=
  (¬ cE m ls t g = 0 ∧ e = cE m ls t g ∧ out = []) ∨ (cE m ls t g = 0 ∧ ((OU m ls t ∧ e = 3 ∧ out = []) ∨ (e = 0 ∧ ∃ js ar, D0 m ls t js ar ∧ Ez ar g (Eg ls.length) out)))
section
variable {σ : Hp}
theorem Lm {w : MW} {m : Mp} {t g : Int} {A : Option Addr} {n c : Nat} {ls : List LrT} (h : MIn σ w m) (hp : m.pk.length ≤ 4294967296) (hr : m.rs.length ≤ 4294967296) (hl : RdS sL σ A n ls) (hll : ls.length ≤ 4294967296) :
    Ag Try.prog E7 #[w.v, .slice A n c, .int .i64 t, .int .i64 g] σ fun v σ' => Hp.Sub σ σ' ∧ ∃ A' n' c' e, ∃ out : List Int, v = .tuple #[.slice A' n' c', .int .i64 e] ∧ RdS [.int .i64] σ' A' n' out ∧ VO m (ls.map AJ) t g out e := by
  refine (PR (c := c) (t := t) (g := g) h hp hr hl hll).mono ?_
  rintro v σ' ⟨hs, (⟨e, rfl⟩ | ⟨e0, (⟨hno, rfl⟩ | ⟨A', n', c', js, ar, out, rfl, hj, hf, ha⟩)⟩)⟩
  · exact ⟨hs, _, _, _, _, [], rfl, ⟨rfl, .inl rfl⟩, .inl ⟨e, rfl, rfl⟩⟩
  · exact ⟨hs, _, _, _, _, [], rfl, ⟨rfl, .inl rfl⟩, .inr ⟨e0, .inl ⟨hno, rfl, rfl⟩⟩⟩
  · exact ⟨hs, _, _, _, _, out, rfl, hj, .inr ⟨e0, .inr ⟨rfl, js, ar, hf, by rw [List.length_map]; exact ha⟩⟩⟩
end
end Go.Proofs.Ytkdjkkimngeloaa
