/- Trimmed by wip/trim.py to what this claim rests on. -/
import Derived.Test.YtkdjkkimngeloaaZVb2
namespace Go.Proofs.Ytkdjkkimngeloaa
open Go.RowKit
section
variable {σ : Hp}
theorem SB {r : Rdt} {l : Lry} : Ae Try.prog Eh #[rdV r, l.v] σ fun v σ' => v = .bool (decide (Ed l r)) ∧ σ' = σ := by
  refine IF _ _ _ _ _ _ _ _ _ _ _ _ _ ?_
  unfold Ek Ed
  refine Ba (fun h => Az ⟨?_, rfl⟩) (fun h => Az ⟨?_, rfl⟩)
  · simp [h]
  · simp [h]
theorem So {r : Rdt} {l : Lry} {K : Bool → Hp → Prop} (h1 : Ed l r → K true σ) (h2 : ¬ Ed l r → K false σ) : cl Try.prog (.func (.func Eh) #[] #[]) #[rdV r, l.v] σ fun v σ' => ∃ t : Bool, (v = .bool t ∧ K t σ') :=
  clB Gw SB (by by_cases h : Ed l r <;> simp only [h] <;> first | exact h1 h | exact h2 h)
theorem N2 {w : MW} {m : Mp} {K : Int → Hp → Prop} (h : MIn σ w m) (hp : m.pk.length ≤ 4294967296) (hr : m.rs.length ≤ 4294967296) (h1 : MpS m → K 0 σ) (h2 : ¬ MpS m → K 90 σ) : cl Try.prog (.func (.func FS) #[] #[]) #[w.v] σ fun v σ' => ∃ t : Int, (v = .int .i64 t ∧ K t σ') :=
  clI F4 (Q9 h hp hr) (by
    unfold eM
    by_cases c : m.okB = true
    · rw [if_pos c]; exact h1 (Mp.okB_iff.1 c)
    · rw [if_neg c]; exact h2 fun h => c (Mp.okB_iff.2 h))
theorem N3 {w : MW} {m : Mp} {A : Option Addr} {n c : Nat} {ls : List LrT} (h : MIn σ w m) (hp : m.pk.length ≤ 4294967296) (hr : m.rs.length ≤ 4294967296) (hl : RdS sL σ A n ls) (hll : ls.length ≤ 4294967296) :
    Ae Try.prog Gb #[w.v, .slice A n c] σ fun v σ' => v = .int .i64 (eC m (ls.map DQ)) ∧ σ' = σ := by
  refine HL _ _ _ _ _ _ _ _ _ _ _ ?_
  unfold Dw
  have hpn := h.pn
  have hn := hl.lenL
  refine N2 h hp hr (fun hm => Bx (fun h => absurd rfl h) (fun _ => ?_)) (fun hm => Bx (fun _ => Az ⟨?_, rfl⟩) (fun h => absurd h (by decide)))
  · have ho := Mp.okB_iff.2 hm
    refine Ag fun J6 h6 => ?_
    refine ⟨fun q i τ => ∃ k : Nat, q = ls.length - k ∧ i = k ∧ k ≤ ls.length ∧ τ = σ ∧ ∀ j, (h : j < ls.length) → j < k → lrB m.pk.length (DQ ls[j]) = true, ⟨_, 0, rfl, rfl, by omega, rfl, fun j _ h => by omega⟩, ?_⟩
    rintro q i τ ⟨k, rfl, rfl, hk, rfl, hj⟩ _
    refine Ba (fun hlt => ?_) (fun hge => ?_)
    · have hkl : k < ls.length := by omega
      refine Ag fun J14 h14 => ?_
      refine S5 hl (by omega) (by simpa using hkl) ?_
      simp only [Int.toNat_natCast]
      refine Ag fun J28 h28 => ?_
      have bad : lrB m.pk.length (DQ ls[k]) = false → J28 true τ := fun hb => by
        rw [h28]
        intro _
        refine Fh (Az ⟨?_, rfl⟩)
        unfold eC
        rw [if_pos ho, if_neg]
        intro ha
        have := List.all_eq_true.1 ha (DQ ls[k]) (List.mem_map_of_mem (List.getElem_mem hkl))
        rw [hb] at this
        cases this
      have ne : (¬ ((0 ≤ (DQ ls[k]).h ∧ (DQ ls[k]).h ≤ 1000) ∧ (0 ≤ (DQ ls[k]).w ∧ (DQ ls[k]).w ≤ 1000) ∧ (0 ≤ (DQ ls[k]).fr ∧ (DQ ls[k]).fr < m.pk.length) ∧ (0 ≤ (DQ ls[k]).rdy ∧ (DQ ls[k]).rdy ≤ 2000) ∧ (1 ≤ (DQ ls[k]).dr ∧ (DQ ls[k]).dr ≤ 500) ∧ (1 ≤ (DQ ls[k]).rst ∧ (DQ ls[k]).rst ≤ 500))) → J28 true τ := fun hb => bad (by unfold lrB; rw [decide_eq_false hb])
      refine Ce (fun g1 => BD ?_) (fun g1 => BE (ne fun g => g1 g.1))
      refine Ce (fun g2 => BD ?_) (fun g2 => BE (ne fun g => g2 g.2.1))
      refine Ni (w := w) (by omega) (fun g3 => BD ?_) (fun g3 => BE (ne fun g => g3 ⟨g.2.2.1.1, by have := g.2.2.1.2; rw [hpn]; exact this⟩))
      refine Ce (fun g4 => BD ?_) (fun g4 => BE (ne fun g => g4 g.2.2.2.1))
      refine Ce (fun g5 => BD ?_) (fun g5 => BE (ne fun g => g5 g.2.2.2.2.1))
      refine Ce (fun g6 => ?_) (fun g6 => ne fun g => g6 g.2.2.2.2.2)
      rw [h28]
      intro _
      refine EM ?_
      rw [h14]
      intro _
      refine AR (by omega) (BC _ (by omega) ⟨k + 1, rfl, rfl, by omega, rfl, fun j h' hjk => ?_⟩)
      rcases Nat.lt_or_ge j k with hlt | hge
      · exact hj j h' hlt
      · obtain rfl : j = k := by omega
        unfold lrB
        rw [decide_eq_true]
        exact ⟨g1, g2, ⟨g3.1, by have := g3.2; rw [hpn] at this; exact this⟩, g4, g5, g6⟩
    · subst h6
      intro _
      refine Az ⟨?_, rfl⟩
      unfold eC
      rw [if_pos ho, if_pos]
      refine List.all_eq_true.2 fun x hx => ?_
      obtain ⟨y, hy, rfl⟩ := List.mem_map.1 hx
      obtain ⟨j, hjl, rfl⟩ := List.mem_iff_getElem.1 hy
      exact hj j hjl (by omega)
  · unfold eC
    rw [if_neg fun h => hm (Mp.okB_iff.1 h)]
theorem QP {w : MW} {m : Mp} {l : Lry} {e : TypeId} {A : Option Addr} {n c : Nat} {σ2 : Hp} {K : Int → Hp → Prop} (h : MIn σ w m) (hp : m.pk.length ≤ 4294967296) (hr : m.rs.length ≤ 4294967296) (ho : AA e sL σ A n c [l.t] σ2)
    (h1 : MpS m → A0 m l → eC m [l] = 0 → K 0 σ2) (h2 : ¬ eC m [l] = 0 → K (eC m [l]) σ2) : cl Try.prog (.func (.func Gb) #[] #[]) #[w.v, .slice A n c] σ2 fun v σ' => ∃ t : Int, (v = .int .i64 t ∧ K t σ') := by
  refine clI C5 (N3 (h.up ho.sub) hp hr ho.rd (show (1 : Nat) ≤ _ by decide)) ?_
  show K (eC m [l]) σ2
  by_cases c1 : m.okB = true
  · by_cases c2 : lrB m.pk.length l = true
    · have e0 : eC m [l] = 0 := by unfold eC; rw [if_pos c1, if_pos (by simp [c2])]
      rw [e0]
      exact h1 (Mp.okB_iff.1 c1) (Gn.1 c2) e0
    · have e0 : eC m [l] = 91 := by unfold eC; rw [if_pos c1, if_neg (by simp [c2])]
      exact h2 (by rw [e0]; decide)
  · have e0 : eC m [l] = 90 := by unfold eC; rw [if_neg c1]
    exact h2 (by rw [e0]; decide)
abbrev sJ : List Sh := [.int .i64, .int .i64]
theorem RdS.lenJ {A : Option Addr} {n : Nat} {xs : List Leg} (h : RdS sJ σ A n xs) : n = xs.length := h.1
theorem Ta {A : Option Addr} {n : Nat} {xs : List Leg} {i : Int} {K : Int → Int → Prop} (h : RdS sJ σ A n xs) (hi : 0 ≤ i) (hn : i.toNat < xs.length) (hk : K xs[i.toNat].1 xs[i.toNat].2) :
    ix A n i 2 fun b a => ldI σ .i64 b a fun x1 => ldI σ .i64 b (a + 1) fun x2 => K x1 x2 := by
  refine GQ (ss := sJ) h rfl hi hn fun b o hc => ?_
  exact AZ (hc 0 (by decide)) (AZ (hc 1 (by decide)) hk)
theorem OP {A : Option Addr} {n : Nat} {xs : List Bool} {i : Int} {K : Bool → Prop} (h : RdS [.bool] σ A n xs) (hi : 0 ≤ i) (hn : i < xs.length) (hk : K (gbp xs i)) : ix A n i 1 fun b a => ldB σ b a K := by
  refine Sr h hi (by omega) ?_
  have hk' : i.toNat < xs.length := by omega
  have e : gbp xs i = xs[i.toNat] := by unfold gbp; simp [List.getD, hk']
  rw [← e]
  exact hk
end
end Go.Proofs.Ytkdjkkimngeloaa
