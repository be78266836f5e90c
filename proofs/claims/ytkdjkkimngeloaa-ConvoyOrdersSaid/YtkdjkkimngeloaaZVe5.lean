/- Trimmed by wip/trim.py to what this claim rests on. -/
import Derived.Test.YtkdjkkimngeloaaZVd3
namespace Go.Proofs.Ytkdjkkimngeloaa
open Go.RowKit
def cE (m : Mp) (ls : List Lry) (t g : Int) : Int := if eT m ls t = 0 then (if 0 ≤ g ∧ g ≤ 100 then 0 else 1) else eT m ls t
section
variable {σ : Hp}
set_option maxRecDepth 20000 in
theorem Ni {w : MW} {m : Mp} {t g : Int} {A : Option Addr} {n c : Nat} {ls : List LrT} (h : MIn σ w m) (hp : m.pk.length ≤ 4294967296) (hr : m.rs.length ≤ 4294967296) (hl : RdS sL σ A n ls) :
    Ag Try.prog Ip #[w.v, .slice A n c, .int .i64 t, .int .i64 g] σ fun v σ' => v = .int .i64 (cE m (ls.map AJ) t g) ∧ σ' = σ := by
  refine GB _ _ _ _ _ _ _ _ _ _ _ _ _ ?_
  unfold CK
  have hn := hl.lenL
  have hpn := h.pn
  have e90 : m.okB = false → cE m (ls.map AJ) t g = 90 := fun ho => by
    have : eT m (ls.map AJ) t = 90 := by unfold eT; rw [ho]; rfl
    unfold cE
    rw [this, if_neg (by decide)]
  refine clI Gt (Qi h hp hr) ?_
  by_cases ho : m.okB = true
  case neg =>
    have ho : m.okB = false := by simpa using ho
    have : eM m = 90 := by unfold eM; rw [ho]; rfl
    rw [this]
    exact Bj (fun _ => Av ⟨by rw [e90 ho], rfl⟩) (fun g => absurd g (by decide))
  have e0 : eM m = 0 := by unfold eM; rw [if_pos ho]
  rw [e0]
  refine Bj (fun g => absurd rfl g) (fun _ => ?_)
  have hm := Mp.okB_iff.1 ho
  refine AK (fun h8 => Av ⟨?_, rfl⟩) (fun h8 => ?_)
  · have : eT m (ls.map AJ) t = 2 := by unfold eT; rw [if_pos ho, if_pos (by rw [List.length_map]; omega)]
    unfold cE
    rw [this, if_neg (by decide)]
  have eT0 : eT m (ls.map AJ) t = if (ls.map AJ).all (lrB m.pk.length) = true then (if 0 ≤ t ∧ t < m.pk.length then 0 else 1) else 91 := by
    unfold eT
    rw [if_pos ho, if_neg (by rw [List.length_map]; omega)]
  refine Ad fun J6 h6 => ?_
  refine ⟨fun q i τ => ∃ k : Nat, q = ls.length - k ∧ i = k ∧ k ≤ ls.length ∧ τ = σ ∧ ∀ j (_ : j < ls.length), j < k → lrB m.pk.length (AJ ls[j]) = true, ⟨_, 0, rfl, rfl, Nat.zero_le _, rfl, fun j _ hj => absurd hj (Nat.not_lt_zero _)⟩, ?_⟩
  rintro q i τ ⟨k, rfl, rfl, hk, rfl, hx⟩ _
  refine AK (fun hlt => ?_) (fun hge => ?_)
  · have hkl : k < ls.length := by omega
    refine Py hl (by omega) (by simpa using hkl) ?_
    simp only [Int.toNat_natCast]
    refine clI Fk (NR (l := AJ ls[k]) h hp) ?_
    by_cases hb : lrB m.pk.length (AJ ls[k]) = true
    · have : eL m (AJ ls[k]) = 0 := by unfold eL; rw [if_pos hb]
      rw [this]
      refine Bj (fun g => absurd rfl g) (fun _ => AL (by omega) (Bf _ (by omega) ⟨k + 1, rfl, rfl, by omega, rfl, fun j hj hjk => ?_⟩))
      by_cases ej : j = k
      · subst ej; exact hb
      · exact hx j hj (by omega)
    · have : eL m (AJ ls[k]) = 91 := by unfold eL; rw [if_neg hb]
      rw [this]
      refine Bj (fun _ => Av ⟨?_, rfl⟩) (fun g => absurd g (by decide))
      have : eT m (ls.map AJ) t = 91 := by
        rw [eT0, if_neg fun ha => hb (List.all_eq_true.1 ha _ (List.mem_map_of_mem (List.getElem_mem hkl)))]
      unfold cE
      rw [this, if_neg (by decide)]
  · have ha : (ls.map AJ).all (lrB m.pk.length) = true := by
      refine List.all_eq_true.2 fun x hx2 => ?_
      obtain ⟨y, hy, rfl⟩ := List.mem_map.1 hx2
      obtain ⟨j, hj, rfl⟩ := List.mem_iff_getElem.1 hy
      exact hx j hj (by omega)
    rw [if_pos ha] at eT0
    rw [h6]
    intro _
    refine Ad fun J9 h9 => Ad fun J12 h12 => ?_
    have kb : ¬ ((0 ≤ t ∧ t < m.pk.length) ∧ (0 ≤ g ∧ g ≤ 100)) → J12 true τ := fun hn => by
      rw [h12]
      intro _
      refine Ef (Av ⟨?_, rfl⟩)
      unfold cE
      by_cases ht : 0 ≤ t ∧ t < m.pk.length
      · rw [eT0, if_pos ht, if_pos rfl, if_neg fun hg => hn ⟨ht, hg⟩]
      · rw [eT0, if_neg ht, if_neg (by decide)]
    refine LR (w := w) (by omega) (fun g1 => BX ?_) (fun g1 => BW (kb fun g => g1 (by rw [hpn]; exact g.1)))
    refine EP (fun g2 => ?_) (fun g2 => kb fun g => g2 g.2)
    rw [h12]
    intro _
    refine Dw ?_
    rw [h9]
    intro _
    refine Av ⟨?_, rfl⟩
    have ht : 0 ≤ t ∧ t < m.pk.length := by rw [← hpn]; exact g1
    rw [if_pos ht] at eT0
    unfold cE
    rw [eT0, if_pos rfl, if_pos g2]
end
end Go.Proofs.Ytkdjkkimngeloaa
