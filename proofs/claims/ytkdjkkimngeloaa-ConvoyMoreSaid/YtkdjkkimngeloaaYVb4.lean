/- Trimmed by wip/trim.py to what this claim rests on. -/
import Derived.Test.YtkdjkkimngeloaaYVb3
namespace Go.Proofs.Ytkdjkkimngeloaa
open Go.RowKit
section
variable {σ : Hp}
theorem Blk.sub {b : Nat} {o : Obj} {σ σ' : Hp} (h : Blk b o σ σ') : Hp.Sub σ σ' := by
  obtain ⟨h1, rfl⟩ := h
  exact Hp.Sub.ins _ h1
theorem OO {A : Option Addr} {n : Nat} {xs : List Leg} {i : Int} {K : Int → Int → Prop} (h : RdS sJ σ A n xs) (hi : 0 ≤ i) (hn : i.toNat < xs.length) (hk : ∀ x : Leg, xs[i.toNat] = x → K x.1 x.2) :
    ix A n i 2 fun b a => ldI σ .i64 b a fun x1 => ldI σ .i64 b (a + 1) fun x2 => K x1 x2 := Q0 h hi hn (hk _ rfl)
theorem On {A : Option Addr} {n : Nat} {xs : List Rdt} {i : Int} {K : Int → Int → Int → Int → Int → Prop} (h : RdS sR σ A n xs) (hi : 0 ≤ i) (hn : i.toNat < xs.length) (hk : ∀ r : Rdt, xs[i.toNat] = r → K r.1 r.2.1 r.2.2.1 r.2.2.2.1 r.2.2.2.2) :
    ix A n i 5 fun b a => ldI σ .i64 b a fun x1 => ldI σ .i64 b (a + 1) fun x2 => ldI σ .i64 b (a + 2) fun x3 => ldI σ .i64 b (a + 3) fun x4 => ldI σ .i64 b (a + 4) fun x5 => K x1 x2 x3 x4 x5 := Qb h hi hn (hk _ rfl)
theorem J9 {m : Mp} {i : Int} (h : i.toNat < m.rs.length) : Aw m i = m.rs[i.toNat] := by unfold Aw; simp [List.getD, h]
theorem HM {w : MW} {m : Mp} {t : Int} {A : Option Addr} {n c : Nat} {ls : List LrT} (h : MIn σ w m) (hp : m.pk.length ≤ 4294967296) (hr : m.rs.length ≤ 4294967296) (hl : RdS sL σ A n ls) (hll : ls.length ≤ 4294967296) :
    Ad Try.prog Ga #[w.v, .int .i64 t, .slice A n c] σ fun v σ' => v = .int .i64 (eT m (ls.map DG) t) ∧ σ' = σ := by
  refine E2 _ _ _ _ _ _ _ _ _ _ _ _ ?_
  unfold B6
  have hpn := h.pn
  have hn := hl.lenL
  refine M1 h hp hr (fun hm => Cs (fun h => absurd rfl h) (fun _ => ?_)) (fun hm => Cs (fun _ => AA ⟨?_, rfl⟩) (fun h => absurd h (by decide)))
  · have ho := Mp.okB_iff.2 hm
    refine Bn (fun h8 => AA ⟨?_, rfl⟩) (fun h8 => ?_)
    · unfold eT
      rw [if_pos ho, if_pos (by rw [List.length_map]; omega)]
    refine clI CM (MO h hp hr hl hll) ?_
    have e : eT m (ls.map DG) t = if (ls.map DG).all (lrB m.pk.length) = true then (if 0 ≤ t ∧ t < m.pk.length then 0 else 1) else 91 := by
      unfold eT
      rw [if_pos ho, if_neg (by rw [List.length_map]; omega)]
    have e2 : eC m (ls.map DG) = if (ls.map DG).all (lrB m.pk.length) = true then 0 else 91 := by
      unfold eC
      rw [if_pos ho]
    rw [e2, e]
    by_cases ha : (ls.map DG).all (lrB m.pk.length) = true
    · rw [if_pos ha, if_pos ha]
      refine Cs (fun h => absurd rfl h) (fun _ => ?_)
      refine Lx (w := w) (by omega) (fun g => Dk (AA ⟨?_, rfl⟩)) (fun g => Dv (AA ⟨?_, rfl⟩))
      · rw [if_pos (by omega)]
      · rw [if_neg (by omega)]
    · rw [if_neg ha, if_neg ha]
      exact Cs (fun _ => AA ⟨rfl, rfl⟩) (fun h => absurd h (by decide))
  · unfold eT
    rw [if_neg fun h => hm (Mp.okB_iff.1 h)]
end
end Go.Proofs.Ytkdjkkimngeloaa
