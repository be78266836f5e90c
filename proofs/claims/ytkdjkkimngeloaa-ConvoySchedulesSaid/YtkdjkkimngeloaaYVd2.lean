/- Trimmed by wip/trim.py to what this claim rests on. -/
import Derived.Test.YtkdjkkimngeloaaYVd1
import Derived.Test.YtkdjkkimngeloaaYW1
namespace Go.Proofs.Ytkdjkkimngeloaa
open Go.RowKit
def exJ : List Leg := [(0, 0), (1, 15)]
section
variable {σ : Hp}
set_option maxRecDepth 100000 in
theorem Tm : Ah Try.prog H9 #[] σ fun v σ' => v = .bool true ∧ σ' = σ := by
  refine Ke _ _ ?_
  unfold Fa
  have ex : Ah Try.prog KQ #[] σ fun v σ' => ∃ w : MW, v = .tuple #[w.v, exL.v] ∧ Hp.Sub σ σ' ∧ MIn σ' w exM := by
    refine Ip _ _ ?_
    intro A1 l1 c1 σ2 h1 A3 l3 c3 σ4 h3
    exact Ay ⟨⟨A1, l1, c1, A3, l3, c3⟩, rfl, (Av.sub h1).trans (Av.sub h3), (Av.rd h1).sub (Av.sub h3), Av.rd h3⟩
  refine Bf GC ex ?_
  rintro v σ2 ⟨w, rfl, hs2, hin⟩
  refine ⟨_, _, _, _, _, _, _, _, _, _, _, _, rfl, ?_⟩
  refine Bf G6 (S7 (l := exL) (t := 2) hin (show 4 ≤ _ by decide) (show 4 ≤ _ by decide)) ?_
  rintro v σ12 (⟨e, _⟩ | ⟨_, (⟨hn, _⟩ | ⟨A, n, c, js, a, rfl, ho, hb⟩)⟩)
  · exact absurd Ub e
  · exact absurd hn fun hn => by
      obtain ⟨s, h1, h2, h3, _⟩ := QD
      exact hn (s.tn, s.dv) _ h2 ⟨_, s, h1, rfl, rfl⟩
  have hjs : (a, js) = (25, exJ) := hb.uniq QD
  have hjs : js = exJ := congrArg Prod.snd hjs
  subst hjs
  have hs12 : Hp.Sub σ2 σ12 := ho.sub
  have hrd : RdS sJ σ12 A n exJ := ho.rd
  have hn2 : n = 2 := hrd.1
  subst hn2
  refine ⟨_, _, _, _, rfl, ?_⟩
  refine Bf Gs (Pc (l := exL) (t := 2) (hin.up hs12) (show 4 ≤ _ by decide) (show 4 ≤ _ by decide)) ?_
  rintro v σ16 ⟨rfl, (⟨e, _⟩ | ⟨_, (⟨hn, _⟩ | ⟨h, rfl, hh⟩)⟩)⟩
  · exact absurd Ub e
  · exact absurd hn SL
  obtain rfl := TZ hh
  refine ⟨_, _, rfl, ?_⟩
  refine Bc (fun _ => ?_) (fun h => absurd rfl h)
  refine Bc (fun _ => ?_) (fun h => absurd rfl h)
  refine Bc (fun _ => ?_) (fun h => absurd rfl h)
  refine Bc (fun _ => ?_) (fun h => absurd rfl h)
  refine SH hrd (by decide) (by decide) fun x hx => ?_
  have hx : ((1 : Int), (15 : Int)) = x := hx
  subst hx
  exact CM (hs2.trans hs12) ⟨rfl, rfl⟩
theorem Qz {K : Bool → Hp → Prop} (h : K true σ) : cl Try.prog (.func (.func H9) #[] #[]) #[] σ fun v σ' => ∃ t : Bool, (v = .bool t ∧ K t σ') :=
  clB HJ Tm h
def Oe (m : Mp) : Bool := decide (20 < m.pk.length) || decide (40 < m.rs.length)
theorem Ty {m : Mp} (h : Oe m = false) : m.pk.length ≤ 20 ∧ m.rs.length ≤ 40 := by
  unfold Oe at h
  simp only [Bool.or_eq_false_iff, decide_eq_false_iff_not] at h
  omega
theorem U2 {w : MW} {m : Mp} (h : MIn σ w m) : Ah Try.prog On #[w.v] σ fun v σ' => v = .bool (Oe m) ∧ σ' = σ := by
  refine Ln _ _ _ _ _ _ _ _ ?_
  unfold Hh Oe
  have hpn := h.pn
  have hrn := h.rn
  refine Bc (fun e => Ay ⟨?_, rfl⟩) (fun e => Ay ⟨?_, rfl⟩)
  · rw [decide_eq_true (show 20 < m.pk.length by omega)]
    rfl
  · rw [decide_eq_false (show ¬ 20 < m.pk.length by omega), Bool.false_or]
    congr 1
    rw [decide_eq_decide]
    omega
theorem Ur {w : MW} {m : Mp} (h : MIn σ w m) (hf : Oe m = false) : Ah Try.prog IN #[w.v] σ fun v σ' => ∃ (w' : MW) (s : Hp), v = w'.v ∧ Av 4 [.bool] σ w'.pA w'.pn w'.pc m.pk s ∧ Av 51 sR s w'.rA w'.rn w'.rc m.rs σ' := by
  refine KW _ _ _ _ _ _ _ _ ?_
  unfold Gq
  obtain ⟨h1, h2⟩ := Ty hf
  refine ⟨⟨m.pk, h.p, Bn (by show 0 + m.pk.length ≤ _; omega) ⟨m.rs, h.r, Bn (by show 0 + m.rs.length ≤ _; omega) ?_⟩⟩, ⟨m.pk, h.p, Bn (by show 0 + m.pk.length ≤ _; omega) ⟨m.rs, h.r, Bn (by show 0 + m.rs.length ≤ _; omega) ?_⟩⟩⟩
  · intro A3 l3 c3 σ4 h3 A5 l5 c5 σ6 h5
    exact Ay ⟨⟨A3, l3, c3, A5, l5, c5⟩, σ4, rfl, h3, h5⟩
  · intro A3 l3 c3 σ4 h3 A5 l5 c5 σ6 h5
    exact Ay ⟨⟨A3, l3, c3, A5, l5, c5⟩, σ4, rfl, h3, h5⟩
theorem Kr {w : MW} {m : Mp} {K : Option Addr → Nat → Nat → Option Addr → Nat → Nat → Hp → Prop} (h : MIn σ w m) (hf : Oe m = false) (hk : ∀ (w' : MW) σ', Hp.Sub σ σ' → MIn σ' w' m → K w'.pA w'.pn w'.pc w'.rA w'.rn w'.rc σ') :
    cl Try.prog (.func (.func IN) #[] #[]) #[w.v] σ fun v σ' => ∃ A9 : Option Addr, ∃ l9 : Nat, ∃ c9 : Nat, ∃ A10 : Option Addr, ∃ l10 : Nat, ∃ c10 : Nat, (v = (.agg #[(.slice A9 l9 c9), (.slice A10 l10 c10)]) ∧ (Hp.Sub σ σ' ∧ K A9 l9 c9 A10 l10 c10 σ')) := by
  refine Bf Iw (Ur h hf) ?_
  rintro v σ' ⟨w', s, rfl, h1, h2⟩
  have hs := (Av.sub h1).trans (Av.sub h2)
  exact ⟨_, _, _, _, _, _, rfl, hs, hk w' σ' hs ⟨(Av.rd h1).sub (Av.sub h2), Av.rd h2⟩⟩
theorem JW {A : Option Addr} {n c : Nat} {j : List Leg} (hj : RdS sJ σ A n j) (hl : j.length ≤ 4294967296) : Ah Try.prog Nf #[.slice A n c] σ fun v σ' => ∃ A' n' c', v = .slice A' n' c' ∧ Av 60 sJ σ A' n' c' j σ' := by
  refine KL _ _ _ _ _ ?_
  unfold Ga
  refine ⟨j, hj, Bn (by show 0 + j.length ≤ _; omega) ?_⟩
  intro A3 l3 c3 σ4 h3
  exact Ay ⟨A3, l3, c3, rfl, h3⟩
end
end Go.Proofs.Ytkdjkkimngeloaa
