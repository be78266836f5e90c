/- Trimmed by wip/trim.py to what this claim rests on. -/
import Derived.Test.YtkdjkkimngeloaaXVb13
namespace Go.Proofs.Ytkdjkkimngeloaa
open Go.RowKit
def cAt (out : List (Plc × Cst)) (p : Plc) : Cst := (lkA out p).getD (0, 0)
theorem LL {out : List (Plc × Cst)} (h : cB out) (p : Plc) : cOK (cAt out p) := by
  unfold cAt
  cases hk : lkA out p with
  | none => exact ⟨⟨Int.le_refl _, show (0 : Int) ≤ _ by decide⟩, Int.le_refl _, show (0 : Int) ≤ _ by decide⟩
  | some c => exact h _ _ hk
section
variable {σ : Hp}
set_option maxRecDepth 100000 in
theorem OP {b15 mb : Nat} {out : List (Plc × Cst)} {p q : Plc} {rw1 rw2 : Bool} (hb : σ b15 = some (ovO mb, rw1)) (hm : σ mb = some (mpo AM out, rw2)) (hc : cB out) : Ae Try.prog AP #[Bz p, Bz q, .pointer (some ⟨b15, 0, none⟩)] σ fun v σ' => v = .int .i64 (Lr (cAt out q) (cAt out p)) ∧ σ' = σ := by
  refine DS _ _ _ _ _ _ _ ?_
  unfold BF
  refine AQ ⟨_, AO hb rfl, AQ ⟨_, AO hb rfl, ?_, ?_⟩⟩
  · refine PX (p := q) hm ⟨Hp.Sub.refl _, _, _, rfl, PX (p := p) hm ⟨Hp.Sub.refl _, _, _, rfl, ?_⟩⟩
    exact CT (c := cAt out q) (d := cAt out p) (LL hc q) (LL hc p) (Ax ⟨rfl, rfl⟩)
  · refine PX (p := p) hm ⟨Hp.Sub.refl _, _, _, rfl, PX (p := q) hm ⟨Hp.Sub.refl _, _, _, rfl, ?_⟩⟩
    exact CT (c := cAt out q) (d := cAt out p) (LL hc q) (LL hc p) (Ax ⟨rfl, rfl⟩)
end
end Go.Proofs.Ytkdjkkimngeloaa
