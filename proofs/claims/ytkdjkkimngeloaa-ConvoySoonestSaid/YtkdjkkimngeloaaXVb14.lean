/- Trimmed by wip/trim.py to what this claim rests on. -/
import Derived.Test.YtkdjkkimngeloaaXVb13
namespace Go.Proofs.Ytkdjkkimngeloaa
open Go.RowKit
def cAt (out : List (Plc × Cst)) (p : Plc) : Cst := (lkA out p).getD (0, 0)
theorem Ks {out : List (Plc × Cst)} (h : cB out) (p : Plc) : cOK (cAt out p) := by
  unfold cAt
  cases hk : lkA out p with
  | none => exact ⟨⟨Int.le_refl _, show (0 : Int) ≤ _ by decide⟩, Int.le_refl _, show (0 : Int) ≤ _ by decide⟩
  | some c => exact h _ _ hk
section
variable {σ : Hp}
set_option maxRecDepth 100000 in
theorem Ob {b15 mb : Nat} {out : List (Plc × Cst)} {p q : Plc} {rw1 rw2 : Bool} (hb : σ b15 = some (ovO mb, rw1)) (hm : σ mb = some (mpo AH out, rw2)) (hc : cB out) : Ae Try.prog AL #[Bv p, Bv q, .pointer (some ⟨b15, 0, none⟩)] σ fun v σ' => v = .int .i64 (KD (cAt out q) (cAt out p)) ∧ σ' = σ := by
  refine DG _ _ _ _ _ _ _ ?_
  unfold Bz
  refine AI ⟨_, AK hb rfl, AI ⟨_, AK hb rfl, ?_, ?_⟩⟩
  · refine OH (p := q) hm ⟨Hp.Sub.refl _, _, _, rfl, OH (p := p) hm ⟨Hp.Sub.refl _, _, _, rfl, ?_⟩⟩
    exact CJ (c := cAt out q) (d := cAt out p) (Ks hc q) (Ks hc p) (Az ⟨rfl, rfl⟩)
  · refine OH (p := p) hm ⟨Hp.Sub.refl _, _, _, rfl, OH (p := q) hm ⟨Hp.Sub.refl _, _, _, rfl, ?_⟩⟩
    exact CJ (c := cAt out q) (d := cAt out p) (Ks hc q) (Ks hc p) (Az ⟨rfl, rfl⟩)
end
end Go.Proofs.Ytkdjkkimngeloaa
