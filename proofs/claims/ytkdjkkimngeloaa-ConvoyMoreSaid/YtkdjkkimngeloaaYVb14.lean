/- Trimmed by wip/trim.py to what this claim rests on. -/
import Derived.Test.YtkdjkkimngeloaaYVb13
namespace Go.Proofs.Ytkdjkkimngeloaa
open Go.RowKit
def cAt (out : List (Plc × Cst)) (p : Plc) : Cst := (lkA out p).getD (0, 0)
theorem Kb {out : List (Plc × Cst)} (h : cB out) (p : Plc) : cOK (cAt out p) := by
  unfold cAt
  cases hk : lkA out p with
  | none => exact ⟨⟨Int.le_refl _, show (0 : Int) ≤ _ by decide⟩, Int.le_refl _, show (0 : Int) ≤ _ by decide⟩
  | some c => exact h _ _ hk
section
variable {σ : Hp}
set_option maxRecDepth 100000 in
theorem Nj {b15 mb : Nat} {out : List (Plc × Cst)} {p q : Plc} {rw1 rw2 : Bool} (hb : σ b15 = some (ovO mb, rw1)) (hm : σ mb = some (mpo AG out, rw2)) (hc : cB out) : Ad Try.prog AJ #[Bm p, Bm q, .pointer (some ⟨b15, 0, none⟩)] σ fun v σ' => v = .int .i64 (JN (cAt out q) (cAt out p)) ∧ σ' = σ := by
  refine DF _ _ _ _ _ _ _ ?_
  unfold Bq
  refine AM ⟨_, AI hb rfl, AM ⟨_, AI hb rfl, ?_, ?_⟩⟩
  · refine N3 (p := q) hm ⟨Hp.Sub.refl _, _, _, rfl, N3 (p := p) hm ⟨Hp.Sub.refl _, _, _, rfl, ?_⟩⟩
    exact Cx (c := cAt out q) (d := cAt out p) (Kb hc q) (Kb hc p) (AA ⟨rfl, rfl⟩)
  · refine N3 (p := p) hm ⟨Hp.Sub.refl _, _, _, rfl, N3 (p := q) hm ⟨Hp.Sub.refl _, _, _, rfl, ?_⟩⟩
    exact Cx (c := cAt out q) (d := cAt out p) (Kb hc q) (Kb hc p) (AA ⟨rfl, rfl⟩)
end
end Go.Proofs.Ytkdjkkimngeloaa
