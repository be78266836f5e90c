/- Trimmed by wip/trim.py to what this claim rests on. -/
import Derived.Test.YtkdjkkimngeloaaZVb2
namespace Go.Proofs.Ytkdjkkimngeloaa
open Go.RowKit
section
variable {σ : Hp}
theorem Qa {r : Rdt} {l : Lry} : Ae Try.prog CM #[rdV r, l.v] σ fun v σ' => v = .bool (decide (FA l r)) ∧ σ' = σ := by
  refine Ho _ _ _ _ _ _ _ _ _ _ _ _ _ ?_
  unfold DU FA
  refine Bl (fun h => Az ⟨?_, rfl⟩) (fun h => Az ⟨?_, rfl⟩)
  · simp [h]
  · simp [h]
theorem ON {r : Rdt} {l : Lry} {K : Bool → Hp → Prop} (h1 : FA l r → K true σ) (h2 : ¬ FA l r → K false σ) : cl Try.prog (.func (.func CM) #[] #[]) #[rdV r, l.v] σ fun v σ' => ∃ t : Bool, (v = .bool t ∧ K t σ') :=
  clB F0 Qa (by by_cases h : FA l r <;> simp only [h] <;> first | exact h1 h | exact h2 h)
theorem M4 {w : MW} {m : Mp} {K : Int → Hp → Prop} (h : MIn σ w m) (hp : m.pk.length ≤ 4294967296) (hr : m.rs.length ≤ 4294967296) (h1 : MpS m → K 0 σ) (h2 : ¬ MpS m → K 90 σ) : cl Try.prog (.func (.func Fo) #[] #[]) #[w.v] σ fun v σ' => ∃ t : Int, (v = .int .i64 t ∧ K t σ') :=
  clI Fx (PR h hp hr) (by
    unfold eM
    by_cases c : m.okB = true
    · rw [if_pos c]; exact h1 (Mp.okB_iff.1 c)
    · rw [if_neg c]; exact h2 fun h => c (Mp.okB_iff.2 h))
theorem M5 {w : MW} {m : Mp} {A : Option Addr} {n c : Nat} {ls : List LrT} (h : MIn σ w m) (hp : m.pk.length ≤ 4294967296) (hr : m.rs.length ≤ 4294967296) (hl : RdS sL σ A n ls) (hll : ls.length ≤ 4294967296) :
    Ae Try.prog FB #[w.v, .slice A n c] σ fun v σ' => v = .int .i64 (eC m (ls.map Dz)) ∧ σ' = σ := by
  refine Gz _ _ _ _ _ _ _ _ _ _ _ ?_
  unfold Dl
  have hpn := h.pn
  have hn := hl.lenL
  refine M4 h hp hr (fun hm => B0 (fun h => absurd rfl h) (fun _ => ?_)) (fun hm => B0 (fun _ => Az ⟨?_, rfl⟩) (fun h => absurd h (by decide)))
  · have ho := Mp.okB_iff.2 hm
    refine Aj fun J6 h6 => ?_
    refine ⟨fun q i τ => ∃ k : Nat, q = ls.length - k ∧ i = k ∧ k ≤ ls.length ∧ τ = σ ∧ ∀ j, (h : j < ls.length) → j < k → lrB m.pk.length (Dz ls[j]) = true, ⟨_, 0, rfl, rfl, by omega, rfl, fun j _ h => by omega⟩, ?_⟩
    rintro q i τ ⟨k, rfl, rfl, hk, rfl, hj⟩ _
    refine Bl (fun hlt => ?_) (fun hge => ?_)
    · have hkl : k < ls.length := by omega
      refine Aj fun J14 h14 => ?_
      refine Q3 hl (by omega) (by simpa using hkl) ?_
      simp only [Int.toNat_natCast]
      refine Aj fun J28 h28 => ?_
      have bad : lrB m.pk.length (Dz ls[k]) = false → J28 true τ := fun hb => by
        rw [h28]
        intro _
        refine Ib (Az ⟨?_, rfl⟩)
        unfold eC
        rw [if_pos ho, if_neg]
        intro ha
        have := List.all_eq_true.1 ha (Dz ls[k]) (List.mem_map_of_mem (List.getElem_mem hkl))
        rw [hb] at this
        cases this
      have ne : (¬ ((0 ≤ (Dz ls[k]).h ∧ (Dz ls[k]).h ≤ 1000) ∧ (0 ≤ (Dz ls[k]).w ∧ (Dz ls[k]).w ≤ 1000) ∧ (0 ≤ (Dz ls[k]).fr ∧ (Dz ls[k]).fr < m.pk.length) ∧ (0 ≤ (Dz ls[k]).rdy ∧ (Dz ls[k]).rdy ≤ 2000) ∧ (1 ≤ (Dz ls[k]).dr ∧ (Dz ls[k]).dr ≤ 500) ∧ (1 ≤ (Dz ls[k]).rst ∧ (Dz ls[k]).rst ≤ 500))) → J28 true τ := fun hb => bad (by unfold lrB; rw [decide_eq_false hb])
      refine Bv (fun g1 => CN ?_) (fun g1 => CR (ne fun g => g1 g.1))
      refine Bv (fun g2 => CN ?_) (fun g2 => CR (ne fun g => g2 g.2.1))
      refine LD (w := w) (by omega) (fun g3 => CN ?_) (fun g3 => CR (ne fun g => g3 ⟨g.2.2.1.1, by have := g.2.2.1.2; rw [hpn]; exact this⟩))
      refine Bv (fun g4 => CN ?_) (fun g4 => CR (ne fun g => g4 g.2.2.2.1))
      refine Bv (fun g5 => CN ?_) (fun g5 => CR (ne fun g => g5 g.2.2.2.2.1))
      refine Bv (fun g6 => ?_) (fun g6 => ne fun g => g6 g.2.2.2.2.2)
      rw [h28]
      intro _
      refine FZ ?_
      rw [h14]
      intro _
      refine Bc (by omega) (CO _ (by omega) ⟨k + 1, rfl, rfl, by omega, rfl, fun j h' hjk => ?_⟩)
      rcases Nat.lt_or_ge j k with hlt | hge
      · exact hj j h' hlt
      · obtain rfl : j = k := by omega
        unfold lrB
        rw [decide_eq_true]
        exact ⟨g1, g2, ⟨g3.1, by have := g3.2; rw [hpn] at this; exact this⟩, g4, g5, g6⟩
    · subst h6
      intro _
      refine Az ⟨?_, rfl⟩
      unfold eC
      rw [if_pos ho, if_pos]
      refine List.all_eq_true.2 fun x hx => ?_
      obtain ⟨y, hy, rfl⟩ := List.mem_map.1 hx
      obtain ⟨j, hjl, rfl⟩ := List.mem_iff_getElem.1 hy
      exact hj j hjl (by omega)
  · unfold eC
    rw [if_neg fun h => hm (Mp.okB_iff.1 h)]
theorem N3 {w : MW} {m : Mp} {l : Lry} {e : TypeId} {A : Option Addr} {n c : Nat} {σ2 : Hp} {K : Int → Hp → Prop} (h : MIn σ w m) (hp : m.pk.length ≤ 4294967296) (hr : m.rs.length ≤ 4294967296) (ho : As e sL σ A n c [l.t] σ2)
    (h1 : MpS m → Bg m l → eC m [l] = 0 → K 0 σ2) (h2 : ¬ eC m [l] = 0 → K (eC m [l]) σ2) : cl Try.prog (.func (.func FB) #[] #[]) #[w.v, .slice A n c] σ2 fun v σ' => ∃ t : Int, (v = .int .i64 t ∧ K t σ') := by
  refine clI CU (M5 (h.up ho.sub) hp hr ho.rd (show (1 : Nat) ≤ _ by decide)) ?_
  show K (eC m [l]) σ2
  by_cases c1 : m.okB = true
  · by_cases c2 : lrB m.pk.length l = true
    · have e0 : eC m [l] = 0 := by unfold eC; rw [if_pos c1, if_pos (by simp [c2])]
      rw [e0]
      exact h1 (Mp.okB_iff.1 c1) (Ij.1 c2) e0
    · have e0 : eC m [l] = 91 := by unfold eC; rw [if_pos c1, if_neg (by simp [c2])]
      exact h2 (by rw [e0]; decide)
  · have e0 : eC m [l] = 90 := by unfold eC; rw [if_neg c1]
    exact h2 (by rw [e0]; decide)
def Dk (m : Mp) (x : Leg) : Bool := !decide ((0 ≤ x.1 ∧ x.1 < m.rs.length) ∧ (0 ≤ x.2 ∧ x.2 ≤ 100000))
def wlk (m : Mp) (l : Lry) : Std → Int → List Leg → Int × Int × Int × Int
  | s, _, [] => (s.tn, s.sn, 0, 0)
  | s, i, x :: j => match go1 m l s x with
    | some s1 => wlk m l s1 (i + 1) j
    | none => (0, 0, i, 92)
def jrn (m : Mp) (l : Lry) (j : List Leg) : Int × Int × Int × Int := if 60 < j.length then (0, 0, 0, 2) else if 0 ≤ IT (Dk m) j then (0, 0, IT (Dk m) j, 1) else wlk m l (bgn l) 0 j
abbrev qV (q : Int × Int × Int × Int) : Value := .tuple #[.int .i64 q.1, .int .i64 q.2.1, .int .i64 q.2.2.1, .int .i64 q.2.2.2]
abbrev sJ : List Sh := [.int .i64, .int .i64]
theorem RdS.lenJ {A : Option Addr} {n : Nat} {xs : List Leg} (h : RdS sJ σ A n xs) : n = xs.length := h.1
theorem P7 {A : Option Addr} {n : Nat} {xs : List Leg} {i : Int} {K : Int → Int → Prop} (h : RdS sJ σ A n xs) (hi : 0 ≤ i) (hn : i.toNat < xs.length) (hk : K xs[i.toNat].1 xs[i.toNat].2) :
    ix A n i 2 fun b a => ldI σ .i64 b a fun x1 => ldI σ .i64 b (a + 1) fun x2 => K x1 x2 := by
  refine IZ (ss := sJ) h rfl hi hn fun b o hc => ?_
  exact Bj (hc 0 (by decide)) (Bj (hc 1 (by decide)) hk)
theorem JY {A : Option Addr} {n : Nat} {xs : List Bool} {i : Int} {K : Bool → Prop} (h : RdS [.bool] σ A n xs) (hi : 0 ≤ i) (hn : i < xs.length) (hk : K (gbp xs i)) : ix A n i 1 fun b a => ldB σ b a K := by
  refine QA h hi (by omega) ?_
  have hk' : i.toNat < xs.length := by omega
  have e : gbp xs i = xs[i.toNat] := by unfold gbp; simp [List.getD, hk']
  rw [← e]
  exact hk
end
end Go.Proofs.Ytkdjkkimngeloaa
