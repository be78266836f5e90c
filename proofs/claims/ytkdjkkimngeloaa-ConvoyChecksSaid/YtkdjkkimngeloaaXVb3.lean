/- Trimmed by wip/trim.py to what this claim rests on. -/
import Derived.Test.YtkdjkkimngeloaaXVb2
namespace Go.Proofs.Ytkdjkkimngeloaa
open Go.RowKit
section
variable {σ : Hp}
theorem Q2 {r : Rdt} {l : Lry} : Ad Try.prog D9 #[rdV r, l.v] σ fun v σ' => v = .bool (decide (Dl l r)) ∧ σ' = σ := by
  refine Ia _ _ _ _ _ _ _ _ _ _ _ _ _ ?_
  unfold D8 Dl
  refine BX (fun h => Au ⟨?_, rfl⟩) (fun h => Au ⟨?_, rfl⟩)
  · simp [h]
  · simp [h]
theorem Pp {r : Rdt} {l : Lry} {K : Bool → Hp → Prop} (h1 : Dl l r → K true σ) (h2 : ¬ Dl l r → K false σ) : cl Try.prog (.func (.func D9) #[] #[]) #[rdV r, l.v] σ fun v σ' => ∃ t : Bool, (v = .bool t ∧ K t σ') :=
  clB F6 Q2 (by by_cases h : Dl l r <;> simp only [h] <;> first | exact h1 h | exact h2 h)
theorem M7 {w : MW} {m : Mp} {K : Int → Hp → Prop} (h : MIn σ w m) (hp : m.pk.length ≤ 4294967296) (hr : m.rs.length ≤ 4294967296) (h1 : MpS m → K 0 σ) (h2 : ¬ MpS m → K 90 σ) : cl Try.prog (.func (.func Fx) #[] #[]) #[w.v] σ fun v σ' => ∃ t : Int, (v = .int .i64 t ∧ K t σ') :=
  clI FI (Qf h hp hr) (by
    unfold eM
    by_cases c : m.okB = true
    · rw [if_pos c]; exact h1 (Mp.okB_iff.1 c)
    · rw [if_neg c]; exact h2 fun h => c (Mp.okB_iff.2 h))
theorem Kt {w : MW} {m : Mp} {A : Option Addr} {n c : Nat} {ls : List LrT} (h : MIn σ w m) (hp : m.pk.length ≤ 4294967296) (hr : m.rs.length ≤ 4294967296) (hl : RdS sL σ A n ls) (hll : ls.length ≤ 4294967296) :
    Ad Try.prog FE #[w.v, .slice A n c] σ fun v σ' => v = .int .i64 (eC m (ls.map DD)) ∧ σ' = σ := by
  refine Ht _ _ _ _ _ _ _ _ _ _ _ ?_
  unfold Di
  have hpn := h.pn
  have hn := hl.lenL
  refine M7 h hp hr (fun hm => CB (fun h => absurd rfl h) (fun _ => ?_)) (fun hm => CB (fun _ => Au ⟨?_, rfl⟩) (fun h => absurd h (by decide)))
  · have ho := Mp.okB_iff.2 hm
    refine An fun J6 h6 => ?_
    refine ⟨fun q i τ => ∃ k : Nat, q = ls.length - k ∧ i = k ∧ k ≤ ls.length ∧ τ = σ ∧ ∀ j, (h : j < ls.length) → j < k → lrB m.pk.length (DD ls[j]) = true, ⟨_, 0, rfl, rfl, by omega, rfl, fun j _ h => by omega⟩, ?_⟩
    rintro q i τ ⟨k, rfl, rfl, hk, rfl, hj⟩ _
    refine BX (fun hlt => ?_) (fun hge => ?_)
    · have hkl : k < ls.length := by omega
      refine An fun J14 h14 => ?_
      refine RA hl (by omega) (by simpa using hkl) ?_
      simp only [Int.toNat_natCast]
      refine An fun J28 h28 => ?_
      have bad : lrB m.pk.length (DD ls[k]) = false → J28 true τ := fun hb => by
        rw [h28]
        intro _
        refine Hc (Au ⟨?_, rfl⟩)
        unfold eC
        rw [if_pos ho, if_neg]
        intro ha
        have := List.all_eq_true.1 ha (DD ls[k]) (List.mem_map_of_mem (List.getElem_mem hkl))
        rw [hb] at this
        cases this
      have ne : (¬ ((0 ≤ (DD ls[k]).h ∧ (DD ls[k]).h ≤ 1000) ∧ (0 ≤ (DD ls[k]).w ∧ (DD ls[k]).w ≤ 1000) ∧ (0 ≤ (DD ls[k]).fr ∧ (DD ls[k]).fr < m.pk.length) ∧ (0 ≤ (DD ls[k]).rdy ∧ (DD ls[k]).rdy ≤ 2000) ∧ (1 ≤ (DD ls[k]).dr ∧ (DD ls[k]).dr ≤ 500) ∧ (1 ≤ (DD ls[k]).rst ∧ (DD ls[k]).rst ≤ 500))) → J28 true τ := fun hb => bad (by unfold lrB; rw [decide_eq_false hb])
      refine BI (fun g1 => Bm ?_) (fun g1 => Bq (ne fun g => g1 g.1))
      refine BI (fun g2 => Bm ?_) (fun g2 => Bq (ne fun g => g2 g.2.1))
      refine Mf (w := w) (by omega) (fun g3 => Bm ?_) (fun g3 => Bq (ne fun g => g3 ⟨g.2.2.1.1, by have := g.2.2.1.2; rw [hpn]; exact this⟩))
      refine BI (fun g4 => Bm ?_) (fun g4 => Bq (ne fun g => g4 g.2.2.2.1))
      refine BI (fun g5 => Bm ?_) (fun g5 => Bq (ne fun g => g5 g.2.2.2.2.1))
      refine BI (fun g6 => ?_) (fun g6 => ne fun g => g6 g.2.2.2.2.2)
      rw [h28]
      intro _
      refine GC ?_
      rw [h14]
      intro _
      refine BA (by omega) (Dr _ (by omega) ⟨k + 1, rfl, rfl, by omega, rfl, fun j h' hjk => ?_⟩)
      rcases Nat.lt_or_ge j k with hlt | hge
      · exact hj j h' hlt
      · obtain rfl : j = k := by omega
        unfold lrB
        rw [decide_eq_true]
        exact ⟨g1, g2, ⟨g3.1, by have := g3.2; rw [hpn] at this; exact this⟩, g4, g5, g6⟩
    · subst h6
      intro _
      refine Au ⟨?_, rfl⟩
      unfold eC
      rw [if_pos ho, if_pos]
      refine List.all_eq_true.2 fun x hx => ?_
      obtain ⟨y, hy, rfl⟩ := List.mem_map.1 hx
      obtain ⟨j, hjl, rfl⟩ := List.mem_iff_getElem.1 hy
      exact hj j hjl (by omega)
  · unfold eC
    rw [if_neg fun h => hm (Mp.okB_iff.1 h)]
theorem P3 {w : MW} {m : Mp} {l : Lry} (h : MIn σ w m) (hp : m.pk.length ≤ 4294967296) (hr : m.rs.length ≤ 4294967296) :
    Ad Try.prog Jn #[w.v, l.v] σ fun v σ' => v = .int .i64 (eC m [l]) ∧ σ' = σ := by
  refine Hs _ _ _ _ _ _ _ _ _ _ _ _ _ _ ?_
  unfold Dz
  intro A1 l1 c1 σ2 ho
  refine clI BJ (Kt (h.up ho.sub) hp hr ho.rd (show (1 : Nat) ≤ _ by decide)) (Bl ho.sub ⟨rfl, rfl⟩)
theorem O7 {w : MW} {m : Mp} {l : Lry} {e : TypeId} {A : Option Addr} {n c : Nat} {σ2 : Hp} {K : Int → Hp → Prop} (h : MIn σ w m) (hp : m.pk.length ≤ 4294967296) (hr : m.rs.length ≤ 4294967296) (ho : Av e sL σ A n c [l.t] σ2)
    (h1 : MpS m → Bj m l → eC m [l] = 0 → K 0 σ2) (h2 : ¬ eC m [l] = 0 → K (eC m [l]) σ2) : cl Try.prog (.func (.func FE) #[] #[]) #[w.v, .slice A n c] σ2 fun v σ' => ∃ t : Int, (v = .int .i64 t ∧ K t σ') := by
  refine clI BJ (Kt (h.up ho.sub) hp hr ho.rd (show (1 : Nat) ≤ _ by decide)) ?_
  show K (eC m [l]) σ2
  by_cases c1 : m.okB = true
  · by_cases c2 : lrB m.pk.length l = true
    · have e0 : eC m [l] = 0 := by unfold eC; rw [if_pos c1, if_pos (by simp [c2])]
      rw [e0]
      exact h1 (Mp.okB_iff.1 c1) (Hv.1 c2) e0
    · have e0 : eC m [l] = 91 := by unfold eC; rw [if_pos c1, if_neg (by simp [c2])]
      exact h2 (by rw [e0]; decide)
  · have e0 : eC m [l] = 90 := by unfold eC; rw [if_neg c1]
    exact h2 (by rw [e0]; decide)
def C3 (m : Mp) (l : Lry) (r : Int) : Bool × Int := if eC m [l] = 0 then (if 0 ≤ r ∧ r < m.rs.length then (decide (Dl l (AE m r)), 0) else (false, 1)) else (false, eC m [l])
theorem Ro {w : MW} {m : Mp} {l : Lry} {r : Int} (h : MIn σ w m) (hp : m.pk.length ≤ 4294967296) (hr : m.rs.length ≤ 4294967296) :
    Ad Try.prog JU #[w.v, l.v, .int .i64 r] σ fun v σ' => v = .tuple #[.bool (C3 m l r).1, .int .i64 (C3 m l r).2] ∧ σ' = σ := by
  refine HG _ _ _ _ _ _ _ _ _ _ _ _ _ _ _ ?_
  unfold Eb
  intro A1 l1 c1 σ2 ho
  have hrn := h.rn
  refine O7 h hp hr ho (fun hm hl e0 => CB (fun g => absurd rfl g) (fun _ => ?_)) (fun e0 => CB (fun _ => Bl ho.sub ⟨?_, rfl⟩) (fun g => absurd g e0))
  · refine BA (by omega) (BI (fun g => Bm ?_) (fun g => Bq (Bl ho.sub ⟨?_, rfl⟩)))
    · have hk : r.toNat < m.rs.length := by omega
      refine OD (h.up ho.sub).r g.1 hk ?_
      have e : AE m r = m.rs[r.toNat] := by unfold AE; simp [List.getD, hk]
      have hf : C3 m l r = (decide (Dl l (AE m r)), 0) := by unfold C3; rw [if_pos e0, if_pos (by omega)]
      refine Pp (r := m.rs[r.toNat]) (l := l) (fun hh => Bl ho.sub ⟨?_, rfl⟩) (fun hh => Bl ho.sub ⟨?_, rfl⟩)
      · rw [hf, e, decide_eq_true hh]
      · rw [hf, e, decide_eq_false hh]
    · have hf : C3 m l r = (false, 1) := by unfold C3; rw [if_pos e0, if_neg (by omega)]
      rw [hf]
  · have hf : C3 m l r = (false, eC m [l]) := by unfold C3; rw [if_neg e0]
    rw [hf]
abbrev sJ : List Sh := [.int .i64, .int .i64]
theorem RB {A : Option Addr} {n : Nat} {xs : List Leg} {i : Int} {K : Int → Int → Prop} (h : RdS sJ σ A n xs) (hi : 0 ≤ i) (hn : i.toNat < xs.length) (hk : K xs[i.toNat].1 xs[i.toNat].2) :
    ix A n i 2 fun b a => ldI σ .i64 b a fun x1 => ldI σ .i64 b (a + 1) fun x2 => K x1 x2 := by
  refine Ls (ss := sJ) h rfl hi hn fun b o hc => ?_
  exact Bv (hc 0 (by decide)) (Bv (hc 1 (by decide)) hk)
theorem P7 {A : Option Addr} {n : Nat} {xs : List Bool} {i : Int} {K : Bool → Prop} (h : RdS [.bool] σ A n xs) (hi : 0 ≤ i) (hn : i < xs.length) (hk : K (gbp xs i)) : ix A n i 1 fun b a => ldB σ b a K := by
  refine Q9 h hi (by omega) ?_
  have hk' : i.toNat < xs.length := by omega
  have e : gbp xs i = xs[i.toNat] := by unfold gbp; simp [List.getD, hk']
  rw [← e]
  exact hk
end
end Go.Proofs.Ytkdjkkimngeloaa
