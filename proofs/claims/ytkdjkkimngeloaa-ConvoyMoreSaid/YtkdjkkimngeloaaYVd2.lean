/- Trimmed by wip/trim.py to what this claim rests on. -/
import Derived.Test.YtkdjkkimngeloaaYVd1
import Derived.Test.YtkdjkkimngeloaaYW1
namespace Go.Proofs.Ytkdjkkimngeloaa
open Go.RowKit
def exJ : List Leg := [(0, 0), (1, 15)]
section
variable {σ : Hp}
set_option maxRecDepth 100000 in
theorem Pv : Ad Try.prog F4 #[] σ fun v σ' => v = .bool true ∧ σ' = σ := by
  refine HG _ _ ?_
  unfold DZ
  have ex : Ad Try.prog H3 #[] σ fun v σ' => ∃ w : MW, v = .tuple #[w.v, exL.v] ∧ Hp.Sub σ σ' ∧ MIn σ' w exM := by
    refine Ge _ _ ?_
    intro A1 l1 c1 σ2 h1 A3 l3 c3 σ4 h3
    exact AA ⟨⟨A1, l1, c1, A3, l3, c3⟩, rfl, (An.sub h1).trans (An.sub h3), (An.rd h1).sub (An.sub h3), An.rd h3⟩
  refine Bp E6 ex ?_
  rintro v σ2 ⟨w, rfl, hs2, hin⟩
  refine ⟨_, _, _, _, _, _, _, _, _, _, _, _, rfl, ?_⟩
  refine Bp Fx (Pj (l := exL) (t := 2) hin (show 4 ≤ _ by decide) (show 4 ≤ _ by decide)) ?_
  rintro v σ12 (⟨e, _⟩ | ⟨_, (⟨hn, _⟩ | ⟨A, n, c, js, a, rfl, ho, hb⟩)⟩)
  · exact absurd P9 e
  · exact absurd hn fun hn => by
      obtain ⟨s, h1, h2, h3, _⟩ := MI
      exact hn (s.tn, s.dv) _ h2 ⟨_, s, h1, rfl, rfl⟩
  have hjs : (a, js) = (25, exJ) := hb.uniq MI
  have hjs : js = exJ := congrArg Prod.snd hjs
  subst hjs
  have hs12 : Hp.Sub σ2 σ12 := ho.sub
  have hrd : RdS sJ σ12 A n exJ := ho.rd
  have hn2 : n = 2 := hrd.1
  subst hn2
  refine ⟨_, _, _, _, rfl, ?_⟩
  refine Bp EB (L9 (l := exL) (t := 2) (hin.up hs12) (show 4 ≤ _ by decide) (show 4 ≤ _ by decide)) ?_
  rintro v σ16 ⟨rfl, (⟨e, _⟩ | ⟨_, (⟨hn, _⟩ | ⟨h, rfl, hh⟩)⟩)⟩
  · exact absurd P9 e
  · exact absurd hn OQ
  obtain rfl := PF hh
  refine ⟨_, _, rfl, ?_⟩
  refine Bn (fun _ => ?_) (fun h => absurd rfl h)
  refine Bn (fun _ => ?_) (fun h => absurd rfl h)
  refine Bn (fun _ => ?_) (fun h => absurd rfl h)
  refine Bn (fun _ => ?_) (fun h => absurd rfl h)
  refine OO hrd (by decide) (by decide) fun x hx => ?_
  have hx : ((1 : Int), (15 : Int)) = x := hx
  subst hx
  exact BJ (hs2.trans hs12) ⟨rfl, rfl⟩
theorem JY {K : Bool → Hp → Prop} (h : K true σ) : cl Try.prog (.func (.func F4) #[] #[]) #[] σ fun v σ' => ∃ t : Bool, (v = .bool t ∧ K t σ') :=
  clB FS Pv h
def La (m : Mp) : Bool := decide (20 < m.pk.length) || decide (40 < m.rs.length)
theorem PG {m : Mp} (h : La m = false) : m.pk.length ≤ 20 ∧ m.rs.length ≤ 40 := by
  unfold La at h
  simp only [Bool.or_eq_false_iff, decide_eq_false_iff_not] at h
  omega
theorem Q7 {w : MW} {m : Mp} (h : MIn σ w m) : Ad Try.prog KP #[w.v] σ fun v σ' => v = .bool (La m) ∧ σ' = σ := by
  refine Iy _ _ _ _ _ _ _ _ ?_
  unfold Ff La
  have hpn := h.pn
  have hrn := h.rn
  refine Bn (fun e => AA ⟨?_, rfl⟩) (fun e => AA ⟨?_, rfl⟩)
  · rw [decide_eq_true (show 20 < m.pk.length by omega)]
    rfl
  · rw [decide_eq_false (show ¬ 20 < m.pk.length by omega), Bool.false_or]
    congr 1
    rw [decide_eq_decide]
    omega
theorem Ov {w : MW} {m : Mp} (h : MIn σ w m) (hf : La m = false) : Ad Try.prog GB #[w.v] σ fun v σ' => ∃ (w' : MW) (s : Hp), v = w'.v ∧ An 4 [.bool] σ w'.pA w'.pn w'.pc m.pk s ∧ An 51 sR s w'.rA w'.rn w'.rc m.rs σ' := by
  refine H8 _ _ _ _ _ _ _ _ ?_
  unfold EN
  obtain ⟨h1, h2⟩ := PG hf
  refine ⟨⟨m.pk, h.p, B3 (by show 0 + m.pk.length ≤ _; omega) ⟨m.rs, h.r, B3 (by show 0 + m.rs.length ≤ _; omega) ?_⟩⟩, ⟨m.pk, h.p, B3 (by show 0 + m.pk.length ≤ _; omega) ⟨m.rs, h.r, B3 (by show 0 + m.rs.length ≤ _; omega) ?_⟩⟩⟩
  · intro A3 l3 c3 σ4 h3 A5 l5 c5 σ6 h5
    exact AA ⟨⟨A3, l3, c3, A5, l5, c5⟩, σ4, rfl, h3, h5⟩
  · intro A3 l3 c3 σ4 h3 A5 l5 c5 σ6 h5
    exact AA ⟨⟨A3, l3, c3, A5, l5, c5⟩, σ4, rfl, h3, h5⟩
theorem QD {w : MW} {m : Mp} {K : Option Addr → Nat → Nat → Option Addr → Nat → Nat → Hp → Prop} (h : MIn σ w m) (hf : La m = false) (hk : ∀ (w' : MW) σ', Hp.Sub σ σ' → MIn σ' w' m → K w'.pA w'.pn w'.pc w'.rA w'.rn w'.rc σ') :
    cl Try.prog (.func (.func GB) #[] #[]) #[w.v] σ fun v σ' => ∃ A9 : Option Addr, ∃ l9 : Nat, ∃ c9 : Nat, ∃ A10 : Option Addr, ∃ l10 : Nat, ∃ c10 : Nat, (v = (.agg #[(.slice A9 l9 c9), (.slice A10 l10 c10)]) ∧ (Hp.Sub σ σ' ∧ K A9 l9 c9 A10 l10 c10 σ')) := by
  refine Bp Dm (Ov h hf) ?_
  rintro v σ' ⟨w', s, rfl, h1, h2⟩
  have hs := (An.sub h1).trans (An.sub h2)
  exact ⟨_, _, _, _, _, _, rfl, hs, hk w' σ' hs ⟨(An.rd h1).sub (An.sub h2), An.rd h2⟩⟩
theorem Ho {A : Option Addr} {n c : Nat} {j : List Leg} (hj : RdS sJ σ A n j) (hl : j.length ≤ 4294967296) : Ad Try.prog J0 #[.slice A n c] σ fun v σ' => ∃ A' n' c', v = .slice A' n' c' ∧ An 60 sJ σ A' n' c' j σ' := by
  refine H7 _ _ _ _ _ ?_
  unfold EG
  refine ⟨j, hj, B3 (by show 0 + j.length ≤ _; omega) ?_⟩
  intro A3 l3 c3 σ4 h3
  exact AA ⟨A3, l3, c3, rfl, h3⟩
end
end Go.Proofs.Ytkdjkkimngeloaa
