/- Trimmed by wip/trim.py to what this claim rests on. -/
import Derived.Test.YtkdjkkimngeloaaYVb13
namespace Go.Proofs.Ytkdjkkimngeloaa
open Go.RowKit
def cAt (out : List (Plc × Cst)) (p : Plc) : Cst := (lkA out p).getD (0, 0)
theorem Lr {out : List (Plc × Cst)} (h : cB out) (p : Plc) : cOK (cAt out p) := by
  unfold cAt
  cases hk : lkA out p with
  | none => exact ⟨⟨Int.le_refl _, show (0 : Int) ≤ _ by decide⟩, Int.le_refl _, show (0 : Int) ≤ _ by decide⟩
  | some c => exact h _ _ hk
section
variable {σ : Hp}
set_option maxRecDepth 100000 in
theorem O3 {b15 mb : Nat} {out : List (Plc × Cst)} {p q : Plc} {rw1 rw2 : Bool} (hb : σ b15 = some (ovO mb, rw1)) (hm : σ mb = some (mpo AO out, rw2)) (hc : cB out) : Ae Try.prog AR #[BB p, BB q, .pointer (some ⟨b15, 0, none⟩)] σ fun v σ' => v = .int .i64 (L1 (cAt out q) (cAt out p)) ∧ σ' = σ := by
  refine DU _ _ _ _ _ _ _ ?_
  unfold BG
  refine AT ⟨_, AQ hb rfl, AT ⟨_, AQ hb rfl, ?_, ?_⟩⟩
  · refine Qz (p := q) hm ⟨Hp.Sub.refl _, _, _, rfl, Qz (p := p) hm ⟨Hp.Sub.refl _, _, _, rfl, ?_⟩⟩
    exact CP (c := cAt out q) (d := cAt out p) (Lr hc q) (Lr hc p) (Ax ⟨rfl, rfl⟩)
  · refine Qz (p := p) hm ⟨Hp.Sub.refl _, _, _, rfl, Qz (p := q) hm ⟨Hp.Sub.refl _, _, _, rfl, ?_⟩⟩
    exact CP (c := cAt out q) (d := cAt out p) (Lr hc q) (Lr hc p) (Ax ⟨rfl, rfl⟩)
end
end Go.Proofs.Ytkdjkkimngeloaa
