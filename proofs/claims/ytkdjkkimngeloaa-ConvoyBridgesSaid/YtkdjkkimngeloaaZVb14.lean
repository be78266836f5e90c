/- Trimmed by wip/trim.py to what this claim rests on. -/
import Derived.Test.YtkdjkkimngeloaaZVb13
namespace Go.Proofs.Ytkdjkkimngeloaa
open Go.RowKit
def cAt (out : List (Plc × Cst)) (p : Plc) : Cst := (lkA out p).getD (0, 0)
theorem Kc {out : List (Plc × Cst)} (h : cB out) (p : Plc) : cOK (cAt out p) := by
  unfold cAt
  cases hk : lkA out p with
  | none => exact ⟨⟨Int.le_refl _, show (0 : Int) ≤ _ by decide⟩, Int.le_refl _, show (0 : Int) ≤ _ by decide⟩
  | some c => exact h _ _ hk
section
variable {σ : Hp}
set_option maxRecDepth 100000 in
theorem NY {b15 mb : Nat} {out : List (Plc × Cst)} {p q : Plc} {rw1 rw2 : Bool} (hb : σ b15 = some (ovO mb, rw1)) (hm : σ mb = some (mpo AF out, rw2)) (hc : cB out) : Ae Try.prog AK #[Bn p, Bn q, .pointer (some ⟨b15, 0, none⟩)] σ fun v σ' => v = .int .i64 (Ky (cAt out q) (cAt out p)) ∧ σ' = σ := by
  refine DA _ _ _ _ _ _ _ ?_
  unfold Bs
  refine AH ⟨_, AJ hb rfl, AH ⟨_, AJ hb rfl, ?_, ?_⟩⟩
  · refine O8 (p := q) hm ⟨Hp.Sub.refl _, _, _, rfl, O8 (p := p) hm ⟨Hp.Sub.refl _, _, _, rfl, ?_⟩⟩
    exact CG (c := cAt out q) (d := cAt out p) (Kc hc q) (Kc hc p) (Az ⟨rfl, rfl⟩)
  · refine O8 (p := p) hm ⟨Hp.Sub.refl _, _, _, rfl, O8 (p := q) hm ⟨Hp.Sub.refl _, _, _, rfl, ?_⟩⟩
    exact CG (c := cAt out q) (d := cAt out p) (Kc hc q) (Kc hc p) (Az ⟨rfl, rfl⟩)
end
end Go.Proofs.Ytkdjkkimngeloaa
