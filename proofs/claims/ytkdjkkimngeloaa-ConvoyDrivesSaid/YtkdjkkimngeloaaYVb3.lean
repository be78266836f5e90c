/- Trimmed by wip/trim.py to what this claim rests on. -/
import Derived.Test.YtkdjkkimngeloaaYVb2
namespace Go.Proofs.Ytkdjkkimngeloaa
open Go.RowKit
section
variable {σ : Hp}
theorem Sx {r : Rdt} {l : Lry} : Ae Try.prog Ea #[rdV r, l.v] σ fun v σ' => v = .bool (decide (D6 l r)) ∧ σ' = σ := by
  refine Ig _ _ _ _ _ _ _ _ _ _ _ _ _ ?_
  unfold Ei D6
  refine Bb (fun h => Ax ⟨?_, rfl⟩) (fun h => Ax ⟨?_, rfl⟩)
  · simp [h]
  · simp [h]
theorem Sp {r : Rdt} {l : Lry} {K : Bool → Hp → Prop} (h1 : D6 l r → K true σ) (h2 : ¬ D6 l r → K false σ) : cl Try.prog (.func (.func Ea) #[] #[]) #[rdV r, l.v] σ fun v σ' => ∃ t : Bool, (v = .bool t ∧ K t σ') :=
  clB GC Sx (by by_cases h : D6 l r <;> simp only [h] <;> first | exact h1 h | exact h2 h)
theorem ON {w : MW} {m : Mp} {K : Int → Hp → Prop} (h : MIn σ w m) (hp : m.pk.length ≤ 4294967296) (hr : m.rs.length ≤ 4294967296) (h1 : MpS m → K 0 σ) (h2 : ¬ MpS m → K 90 σ) : cl Try.prog (.func (.func Gd) #[] #[]) #[w.v] σ fun v σ' => ∃ t : Int, (v = .int .i64 t ∧ K t σ') :=
  clI FV (RE h hp hr) (by
    unfold eM
    by_cases c : m.okB = true
    · rw [if_pos c]; exact h1 (Mp.okB_iff.1 c)
    · rw [if_neg c]; exact h2 fun h => c (Mp.okB_iff.2 h))
theorem RR {w : MW} {m : Mp} {A : Option Addr} {n c : Nat} {ls : List LrT} (h : MIn σ w m) (hp : m.pk.length ≤ 4294967296) (hr : m.rs.length ≤ 4294967296) (hl : RdS sL σ A n ls) (hll : ls.length ≤ 4294967296) :
    Ae Try.prog Kg #[w.v, .slice A n c] σ fun v σ' => v = .int .i64 (eC m (ls.map DI)) ∧ σ' = σ := by
  refine HN _ _ _ _ _ _ _ _ _ _ _ ?_
  unfold DC
  have hpn := h.pn
  have hn := hl.lenL
  refine ON h hp hr (fun hm => BJ (fun h => absurd rfl h) (fun _ => ?_)) (fun hm => BJ (fun _ => Ax ⟨?_, rfl⟩) (fun h => absurd h (by decide)))
  · have ho := Mp.okB_iff.2 hm
    refine Ai fun J6 h6 => ?_
    refine ⟨fun q i τ => ∃ k : Nat, q = ls.length - k ∧ i = k ∧ k ≤ ls.length ∧ τ = σ ∧ ∀ j, (h : j < ls.length) → j < k → lrB m.pk.length (DI ls[j]) = true, ⟨_, 0, rfl, rfl, by omega, rfl, fun j _ h => by omega⟩, ?_⟩
    rintro q i τ ⟨k, rfl, rfl, hk, rfl, hj⟩ _
    refine Bb (fun hlt => ?_) (fun hge => ?_)
    · have hkl : k < ls.length := by omega
      refine Ai fun J14 h14 => ?_
      refine Te hl (by omega) (by simpa using hkl) ?_
      simp only [Int.toNat_natCast]
      refine Ai fun J28 h28 => ?_
      have bad : lrB m.pk.length (DI ls[k]) = false → J28 true τ := fun hb => by
        rw [h28]
        intro _
        refine Eu (Ax ⟨?_, rfl⟩)
        unfold eC
        rw [if_pos ho, if_neg]
        intro ha
        have := List.all_eq_true.1 ha (DI ls[k]) (List.mem_map_of_mem (List.getElem_mem hkl))
        rw [hb] at this
        cases this
      have ne : (¬ ((0 ≤ (DI ls[k]).h ∧ (DI ls[k]).h ≤ 1000) ∧ (0 ≤ (DI ls[k]).w ∧ (DI ls[k]).w ≤ 1000) ∧ (0 ≤ (DI ls[k]).fr ∧ (DI ls[k]).fr < m.pk.length) ∧ (0 ≤ (DI ls[k]).rdy ∧ (DI ls[k]).rdy ≤ 2000) ∧ (1 ≤ (DI ls[k]).dr ∧ (DI ls[k]).dr ≤ 500) ∧ (1 ≤ (DI ls[k]).rst ∧ (DI ls[k]).rst ≤ 500))) → J28 true τ := fun hb => bad (by unfold lrB; rw [decide_eq_false hb])
      refine Cg (fun g1 => BE ?_) (fun g1 => BA (ne fun g => g1 g.1))
      refine Cg (fun g2 => BE ?_) (fun g2 => BA (ne fun g => g2 g.2.1))
      refine Nr (w := w) (by omega) (fun g3 => BE ?_) (fun g3 => BA (ne fun g => g3 ⟨g.2.2.1.1, by have := g.2.2.1.2; rw [hpn]; exact this⟩))
      refine Cg (fun g4 => BE ?_) (fun g4 => BA (ne fun g => g4 g.2.2.2.1))
      refine Cg (fun g5 => BE ?_) (fun g5 => BA (ne fun g => g5 g.2.2.2.2.1))
      refine Cg (fun g6 => ?_) (fun g6 => ne fun g => g6 g.2.2.2.2.2)
      rw [h28]
      intro _
      refine D3 ?_
      rw [h14]
      intro _
      refine AY (by omega) (BR _ (by omega) ⟨k + 1, rfl, rfl, by omega, rfl, fun j h' hjk => ?_⟩)
      rcases Nat.lt_or_ge j k with hlt | hge
      · exact hj j h' hlt
      · obtain rfl : j = k := by omega
        unfold lrB
        rw [decide_eq_true]
        exact ⟨g1, g2, ⟨g3.1, by have := g3.2; rw [hpn] at this; exact this⟩, g4, g5, g6⟩
    · subst h6
      intro _
      refine Ax ⟨?_, rfl⟩
      unfold eC
      rw [if_pos ho, if_pos]
      refine List.all_eq_true.2 fun x hx => ?_
      obtain ⟨y, hy, rfl⟩ := List.mem_map.1 hx
      obtain ⟨j, hjl, rfl⟩ := List.mem_iff_getElem.1 hy
      exact hj j hjl (by omega)
  · unfold eC
    rw [if_neg fun h => hm (Mp.okB_iff.1 h)]
abbrev sJ : List Sh := [.int .i64, .int .i64]
theorem RdS.lenJ {A : Option Addr} {n : Nat} {xs : List Leg} (h : RdS sJ σ A n xs) : n = xs.length := h.1
theorem Qq {A : Option Addr} {n : Nat} {xs : List Leg} {i : Int} {K : Int → Int → Prop} (h : RdS sJ σ A n xs) (hi : 0 ≤ i) (hn : i.toNat < xs.length) (hk : K xs[i.toNat].1 xs[i.toNat].2) :
    ix A n i 2 fun b a => ldI σ .i64 b a fun x1 => ldI σ .i64 b (a + 1) fun x2 => K x1 x2 := by
  refine GQ (ss := sJ) h rfl hi hn fun b o hc => ?_
  exact A7 (hc 0 (by decide)) (A7 (hc 1 (by decide)) hk)
theorem OZ {A : Option Addr} {n : Nat} {xs : List Bool} {i : Int} {K : Bool → Prop} (h : RdS [.bool] σ A n xs) (hi : 0 ≤ i) (hn : i < xs.length) (hk : K (gbp xs i)) : ix A n i 1 fun b a => ldB σ b a K := by
  refine Sz h hi (by omega) ?_
  have hk' : i.toNat < xs.length := by omega
  have e : gbp xs i = xs[i.toNat] := by unfold gbp; simp [List.getD, hk']
  rw [← e]
  exact hk
end
end Go.Proofs.Ytkdjkkimngeloaa
