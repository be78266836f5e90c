/- Trimmed by wip/trim.py to what this claim rests on. -/
import Derived.Test.YtkdjkkimngeloaaZVd1
import Derived.Test.YtkdjkkimngeloaaZW1
namespace Go.Proofs.Ytkdjkkimngeloaa
open Go.RowKit
def exJ : List Leg := [(0, 0), (1, 15)]
section
variable {σ : Hp}
set_option maxRecDepth 100000 in
theorem PW : Ae Try.prog F9 #[] σ fun v σ' => v = .bool true ∧ σ' = σ := by
  refine HD _ _ ?_
  unfold DQ
  have ex : Ae Try.prog H3 #[] σ fun v σ' => ∃ w : MW, v = .tuple #[w.v, exL.v] ∧ Hp.Sub σ σ' ∧ MIn σ' w exM := by
    refine Gx _ _ ?_
    intro A1 l1 c1 σ2 h1 A3 l3 c3 σ4 h3
    exact Az ⟨⟨A1, l1, c1, A3, l3, c3⟩, rfl, (As.sub h1).trans (As.sub h3), (As.rd h1).sub (As.sub h3), As.rd h3⟩
  refine BH E9 ex ?_
  rintro v σ2 ⟨w, rfl, hs2, hin⟩
  refine ⟨_, _, _, _, _, _, _, _, _, _, _, _, rfl, ?_⟩
  refine BH FF (N0 (l := exL) (t := 2) hin (show 4 ≤ _ by decide) (show 4 ≤ _ by decide)) ?_
  rintro v σ12 (⟨e, _⟩ | ⟨_, (⟨hn, _⟩ | ⟨A, n, c, js, a, rfl, ho, hb⟩)⟩)
  · exact absurd P8 e
  · exact absurd hn fun hn => by
      obtain ⟨s, h1, h2, h3, _⟩ := Mt
      exact hn (s.tn, s.dv) _ h2 ⟨_, s, h1, rfl, rfl⟩
  have hjs : (a, js) = (25, exJ) := hb.uniq Mt
  have hjs : js = exJ := congrArg Prod.snd hjs
  subst hjs
  have hs12 : Hp.Sub σ2 σ12 := ho.sub
  have hrd : RdS sJ σ12 A n exJ := ho.rd
  have hn2 : n = 2 := hrd.1
  subst hn2
  refine ⟨_, _, _, _, rfl, ?_⟩
  refine BH Eu (Mf (l := exL) (t := 2) (hin.up hs12) (show 4 ≤ _ by decide) (show 4 ≤ _ by decide)) ?_
  rintro v σ16 ⟨rfl, (⟨e, _⟩ | ⟨_, (⟨hn, _⟩ | ⟨h, rfl, hh⟩)⟩)⟩
  · exact absurd P8 e
  · exact absurd hn O6
  obtain rfl := PO hh
  refine ⟨_, _, rfl, ?_⟩
  refine Bl (fun _ => ?_) (fun h => absurd rfl h)
  refine Bl (fun _ => ?_) (fun h => absurd rfl h)
  refine Bl (fun _ => ?_) (fun h => absurd rfl h)
  refine Bl (fun _ => ?_) (fun h => absurd rfl h)
  refine LO hrd (by decide) (by decide) fun x hx => ?_
  have hx : ((1 : Int), (15 : Int)) = x := hx
  subst hx
  exact Bm (hs2.trans hs12) ⟨rfl, rfl⟩
theorem Ku {K : Bool → Hp → Prop} (h : K true σ) : cl Try.prog (.func (.func F9) #[] #[]) #[] σ fun v σ' => ∃ t : Bool, (v = .bool t ∧ K t σ') :=
  clB F1 PW h
def L1 (m : Mp) : Bool := decide (20 < m.pk.length) || decide (40 < m.rs.length)
theorem M0 {m : Mp} (h : L1 m = false) : m.pk.length ≤ 20 ∧ m.rs.length ≤ 40 := by
  unfold L1 at h
  simp only [Bool.or_eq_false_iff, decide_eq_false_iff_not] at h
  omega
theorem QZ {w : MW} {m : Mp} (h : MIn σ w m) : Ae Try.prog Le #[w.v] σ fun v σ' => v = .bool (L1 m) ∧ σ' = σ := by
  refine IQ _ _ _ _ _ _ _ _ ?_
  unfold Fp L1
  have hpn := h.pn
  have hrn := h.rn
  refine Bl (fun e => Az ⟨?_, rfl⟩) (fun e => Az ⟨?_, rfl⟩)
  · rw [decide_eq_true (show 20 < m.pk.length by omega)]
    rfl
  · rw [decide_eq_false (show ¬ 20 < m.pk.length by omega), Bool.false_or]
    congr 1
    rw [decide_eq_decide]
    omega
theorem Qt {w : MW} {m : Mp} (h : MIn σ w m) (hf : L1 m = false) : Ae Try.prog GW #[w.v] σ fun v σ' => ∃ (w' : MW) (s : Hp), v = w'.v ∧ As 4 [.bool] σ w'.pA w'.pn w'.pc m.pk s ∧ As 51 sR s w'.rA w'.rn w'.rc m.rs σ' := by
  refine H6 _ _ _ _ _ _ _ _ ?_
  unfold EX
  obtain ⟨h1, h2⟩ := M0 hf
  refine ⟨⟨m.pk, h.p, Dc (by show 0 + m.pk.length ≤ _; omega) ⟨m.rs, h.r, Dc (by show 0 + m.rs.length ≤ _; omega) ?_⟩⟩, ⟨m.pk, h.p, Dc (by show 0 + m.pk.length ≤ _; omega) ⟨m.rs, h.r, Dc (by show 0 + m.rs.length ≤ _; omega) ?_⟩⟩⟩
  · intro A3 l3 c3 σ4 h3 A5 l5 c5 σ6 h5
    exact Az ⟨⟨A3, l3, c3, A5, l5, c5⟩, σ4, rfl, h3, h5⟩
  · intro A3 l3 c3 σ4 h3 A5 l5 c5 σ6 h5
    exact Az ⟨⟨A3, l3, c3, A5, l5, c5⟩, σ4, rfl, h3, h5⟩
theorem Qi {w : MW} {m : Mp} {K : Option Addr → Nat → Nat → Option Addr → Nat → Nat → Hp → Prop} (h : MIn σ w m) (hf : L1 m = false) (hk : ∀ (w' : MW) σ', Hp.Sub σ σ' → MIn σ' w' m → K w'.pA w'.pn w'.pc w'.rA w'.rn w'.rc σ') :
    cl Try.prog (.func (.func GW) #[] #[]) #[w.v] σ fun v σ' => ∃ A9 : Option Addr, ∃ l9 : Nat, ∃ c9 : Nat, ∃ A10 : Option Addr, ∃ l10 : Nat, ∃ c10 : Nat, (v = (.agg #[(.slice A9 l9 c9), (.slice A10 l10 c10)]) ∧ (Hp.Sub σ σ' ∧ K A9 l9 c9 A10 l10 c10 σ')) := by
  refine BH Gf (Qt h hf) ?_
  rintro v σ' ⟨w', s, rfl, h1, h2⟩
  have hs := (As.sub h1).trans (As.sub h2)
  exact ⟨_, _, _, _, _, _, rfl, hs, hk w' σ' hs ⟨(As.rd h1).sub (As.sub h2), As.rd h2⟩⟩
theorem Gn {A : Option Addr} {n c : Nat} {j : List Leg} (hj : RdS sJ σ A n j) (hl : j.length ≤ 4294967296) : Ae Try.prog Hi #[.slice A n c] σ fun v σ' => ∃ A' n' c', v = .slice A' n' c' ∧ As 60 sJ σ A' n' c' j σ' := by
  refine Ia _ _ _ _ _ ?_
  unfold EF
  refine ⟨j, hj, Dc (by show 0 + j.length ≤ _; omega) ?_⟩
  intro A3 l3 c3 σ4 h3
  exact Az ⟨A3, l3, c3, rfl, h3⟩
theorem Qx {A : Option Addr} {n c : Nat} {j : List Leg} {K : Option Addr → Nat → Nat → Hp → Prop} (hj : RdS sJ σ A n j) (hl : j.length ≤ 4294967296) (hk : ∀ A' n' c' σ', Hp.Sub σ σ' → RdS sJ σ' A' n' j → K A' n' c' σ') :
    cl Try.prog (.func (.func Hi) #[] #[]) #[.slice A n c] σ fun v σ' => ∃ A10 : Option Addr, ∃ l10 : Nat, ∃ c10 : Nat, (v = (.slice A10 l10 c10) ∧ (Hp.Sub σ σ' ∧ K A10 l10 c10 σ')) := by
  refine BH Gu (Gn hj hl) ?_
  rintro v σ' ⟨A', n', c', rfl, ho⟩
  exact ⟨_, _, _, rfl, ho.sub, hk _ _ _ _ ho.sub ho.rd⟩
end
end Go.Proofs.Ytkdjkkimngeloaa
