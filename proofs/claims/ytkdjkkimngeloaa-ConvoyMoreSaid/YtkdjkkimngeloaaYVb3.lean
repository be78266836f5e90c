/- Trimmed by wip/trim.py to what this claim rests on. -/
import Derived.Test.YtkdjkkimngeloaaYVb2
namespace Go.Proofs.Ytkdjkkimngeloaa
open Go.RowKit
section
variable {σ : Hp}
theorem QQ {r : Rdt} {l : Lry} : Ad Try.prog DQ #[rdV r, l.v] σ fun v σ' => v = .bool (decide (Gc l r)) ∧ σ' = σ := by
  refine Hl _ _ _ _ _ _ _ _ _ _ _ _ _ ?_
  unfold DP Gc
  refine Bn (fun h => AA ⟨?_, rfl⟩) (fun h => AA ⟨?_, rfl⟩)
  · simp [h]
  · simp [h]
theorem Qj {r : Rdt} {l : Lry} {K : Bool → Hp → Prop} (h1 : Gc l r → K true σ) (h2 : ¬ Gc l r → K false σ) : cl Try.prog (.func (.func DQ) #[] #[]) #[rdV r, l.v] σ fun v σ' => ∃ t : Bool, (v = .bool t ∧ K t σ') :=
  clB FU QQ (by by_cases h : Gc l r <;> simp only [h] <;> first | exact h1 h | exact h2 h)
theorem M1 {w : MW} {m : Mp} {K : Int → Hp → Prop} (h : MIn σ w m) (hp : m.pk.length ≤ 4294967296) (hr : m.rs.length ≤ 4294967296) (h1 : MpS m → K 0 σ) (h2 : ¬ MpS m → K 90 σ) : cl Try.prog (.func (.func Fs) #[] #[]) #[w.v] σ fun v σ' => ∃ t : Int, (v = .int .i64 t ∧ K t σ') :=
  clI Fd (P2 h hp hr) (by
    unfold eM
    by_cases c : m.okB = true
    · rw [if_pos c]; exact h1 (Mp.okB_iff.1 c)
    · rw [if_neg c]; exact h2 fun h => c (Mp.okB_iff.2 h))
theorem MO {w : MW} {m : Mp} {A : Option Addr} {n c : Nat} {ls : List LrT} (h : MIn σ w m) (hp : m.pk.length ≤ 4294967296) (hr : m.rs.length ≤ 4294967296) (hl : RdS sL σ A n ls) (hll : ls.length ≤ 4294967296) :
    Ad Try.prog Fu #[w.v, .slice A n c] σ fun v σ' => v = .int .i64 (eC m (ls.map DG)) ∧ σ' = σ := by
  refine GV _ _ _ _ _ _ _ _ _ _ _ ?_
  unfold De
  have hpn := h.pn
  have hn := hl.lenL
  refine M1 h hp hr (fun hm => Cs (fun h => absurd rfl h) (fun _ => ?_)) (fun hm => Cs (fun _ => AA ⟨?_, rfl⟩) (fun h => absurd h (by decide)))
  · have ho := Mp.okB_iff.2 hm
    refine Ai fun J6 h6 => ?_
    refine ⟨fun q i τ => ∃ k : Nat, q = ls.length - k ∧ i = k ∧ k ≤ ls.length ∧ τ = σ ∧ ∀ j, (h : j < ls.length) → j < k → lrB m.pk.length (DG ls[j]) = true, ⟨_, 0, rfl, rfl, by omega, rfl, fun j _ h => by omega⟩, ?_⟩
    rintro q i τ ⟨k, rfl, rfl, hk, rfl, hj⟩ _
    refine Bn (fun hlt => ?_) (fun hge => ?_)
    · have hkl : k < ls.length := by omega
      refine Ai fun J14 h14 => ?_
      refine QW hl (by omega) (by simpa using hkl) ?_
      simp only [Int.toNat_natCast]
      refine Ai fun J28 h28 => ?_
      have bad : lrB m.pk.length (DG ls[k]) = false → J28 true τ := fun hb => by
        rw [h28]
        intro _
        refine Gm (AA ⟨?_, rfl⟩)
        unfold eC
        rw [if_pos ho, if_neg]
        intro ha
        have := List.all_eq_true.1 ha (DG ls[k]) (List.mem_map_of_mem (List.getElem_mem hkl))
        rw [hb] at this
        cases this
      have ne : (¬ ((0 ≤ (DG ls[k]).h ∧ (DG ls[k]).h ≤ 1000) ∧ (0 ≤ (DG ls[k]).w ∧ (DG ls[k]).w ≤ 1000) ∧ (0 ≤ (DG ls[k]).fr ∧ (DG ls[k]).fr < m.pk.length) ∧ (0 ≤ (DG ls[k]).rdy ∧ (DG ls[k]).rdy ≤ 2000) ∧ (1 ≤ (DG ls[k]).dr ∧ (DG ls[k]).dr ≤ 500) ∧ (1 ≤ (DG ls[k]).rst ∧ (DG ls[k]).rst ≤ 500))) → J28 true τ := fun hb => bad (by unfold lrB; rw [decide_eq_false hb])
      refine BW (fun g1 => Dk ?_) (fun g1 => Dv (ne fun g => g1 g.1))
      refine BW (fun g2 => Dk ?_) (fun g2 => Dv (ne fun g => g2 g.2.1))
      refine Lx (w := w) (by omega) (fun g3 => Dk ?_) (fun g3 => Dv (ne fun g => g3 ⟨g.2.2.1.1, by have := g.2.2.1.2; rw [hpn]; exact this⟩))
      refine BW (fun g4 => Dk ?_) (fun g4 => Dv (ne fun g => g4 g.2.2.2.1))
      refine BW (fun g5 => Dk ?_) (fun g5 => Dv (ne fun g => g5 g.2.2.2.2.1))
      refine BW (fun g6 => ?_) (fun g6 => ne fun g => g6 g.2.2.2.2.2)
      rw [h28]
      intro _
      refine Es ?_
      rw [h14]
      intro _
      refine Bx (by omega) (CN _ (by omega) ⟨k + 1, rfl, rfl, by omega, rfl, fun j h' hjk => ?_⟩)
      rcases Nat.lt_or_ge j k with hlt | hge
      · exact hj j h' hlt
      · obtain rfl : j = k := by omega
        unfold lrB
        rw [decide_eq_true]
        exact ⟨g1, g2, ⟨g3.1, by have := g3.2; rw [hpn] at this; exact this⟩, g4, g5, g6⟩
    · subst h6
      intro _
      refine AA ⟨?_, rfl⟩
      unfold eC
      rw [if_pos ho, if_pos]
      refine List.all_eq_true.2 fun x hx => ?_
      obtain ⟨y, hy, rfl⟩ := List.mem_map.1 hx
      obtain ⟨j, hjl, rfl⟩ := List.mem_iff_getElem.1 hy
      exact hj j hjl (by omega)
  · unfold eC
    rw [if_neg fun h => hm (Mp.okB_iff.1 h)]
theorem OT {w : MW} {m : Mp} {l : Lry} {e : TypeId} {A : Option Addr} {n c : Nat} {σ2 : Hp} {K : Int → Hp → Prop} (h : MIn σ w m) (hp : m.pk.length ≤ 4294967296) (hr : m.rs.length ≤ 4294967296) (ho : An e sL σ A n c [l.t] σ2)
    (h1 : MpS m → A0 m l → eC m [l] = 0 → K 0 σ2) (h2 : ¬ eC m [l] = 0 → K (eC m [l]) σ2) : cl Try.prog (.func (.func Fu) #[] #[]) #[w.v, .slice A n c] σ2 fun v σ' => ∃ t : Int, (v = .int .i64 t ∧ K t σ') := by
  refine clI CM (MO (h.up ho.sub) hp hr ho.rd (show (1 : Nat) ≤ _ by decide)) ?_
  show K (eC m [l]) σ2
  by_cases c1 : m.okB = true
  · by_cases c2 : lrB m.pk.length l = true
    · have e0 : eC m [l] = 0 := by unfold eC; rw [if_pos c1, if_pos (by simp [c2])]
      rw [e0]
      exact h1 (Mp.okB_iff.1 c1) (Ke.1 c2) e0
    · have e0 : eC m [l] = 91 := by unfold eC; rw [if_pos c1, if_neg (by simp [c2])]
      exact h2 (by rw [e0]; decide)
  · have e0 : eC m [l] = 90 := by unfold eC; rw [if_neg c1]
    exact h2 (by rw [e0]; decide)
abbrev sJ : List Sh := [.int .i64, .int .i64]
theorem Q0 {A : Option Addr} {n : Nat} {xs : List Leg} {i : Int} {K : Int → Int → Prop} (h : RdS sJ σ A n xs) (hi : 0 ≤ i) (hn : i.toNat < xs.length) (hk : K xs[i.toNat].1 xs[i.toNat].2) :
    ix A n i 2 fun b a => ldI σ .i64 b a fun x1 => ldI σ .i64 b (a + 1) fun x2 => K x1 x2 := by
  refine I5 (ss := sJ) h rfl hi hn fun b o hc => ?_
  exact Bj (hc 0 (by decide)) (Bj (hc 1 (by decide)) hk)
theorem Pn {A : Option Addr} {n : Nat} {xs : List Bool} {i : Int} {K : Bool → Prop} (h : RdS [.bool] σ A n xs) (hi : 0 ≤ i) (hn : i < xs.length) (hk : K (gbp xs i)) : ix A n i 1 fun b a => ldB σ b a K := by
  refine QE h hi (by omega) ?_
  have hk' : i.toNat < xs.length := by omega
  have e : gbp xs i = xs[i.toNat] := by unfold gbp; simp [List.getD, hk']
  rw [← e]
  exact hk
end
end Go.Proofs.Ytkdjkkimngeloaa
