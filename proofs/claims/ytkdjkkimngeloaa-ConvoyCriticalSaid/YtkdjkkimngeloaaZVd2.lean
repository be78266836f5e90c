/- Trimmed by wip/trim.py to what this claim rests on. -/
import Derived.Test.YtkdjkkimngeloaaZVd1
import Derived.Test.YtkdjkkimngeloaaZW1
namespace Go.Proofs.Ytkdjkkimngeloaa
open Go.RowKit
def exJ : List Leg := [(0, 0), (1, 15)]
section
variable {σ : Hp}
set_option maxRecDepth 100000 in
theorem Sb : Ah Try.prog HG #[] σ fun v σ' => v = .bool true ∧ σ' = σ := by
  refine Ju _ _ ?_
  unfold EK
  have ex : Ah Try.prog Kk #[] σ fun v σ' => ∃ w : MW, v = .tuple #[w.v, exL.v] ∧ Hp.Sub σ σ' ∧ MIn σ' w exM := by
    refine H5 _ _ ?_
    intro A1 l1 c1 σ2 h1 A3 l3 c3 σ4 h3
    exact Ay ⟨⟨A1, l1, c1, A3, l3, c3⟩, rfl, (Au.sub h1).trans (Au.sub h3), (Au.rd h1).sub (Au.sub h3), Au.rd h3⟩
  refine AY Gf ex ?_
  rintro v σ2 ⟨w, rfl, hs2, hin⟩
  refine ⟨_, _, _, _, _, _, _, _, _, _, _, _, rfl, ?_⟩
  refine AY GF (Ri (l := exL) (t := 2) hin (show 4 ≤ _ by decide) (show 4 ≤ _ by decide)) ?_
  rintro v σ12 (⟨e, _⟩ | ⟨_, (⟨hn, _⟩ | ⟨A, n, c, js, a, rfl, ho, hb⟩)⟩)
  · exact absurd Te e
  · exact absurd hn fun hn => by
      obtain ⟨s, h1, h2, h3, _⟩ := PD
      exact hn (s.tn, s.dv) _ h2 ⟨_, s, h1, rfl, rfl⟩
  have hjs : (a, js) = (25, exJ) := hb.uniq PD
  have hjs : js = exJ := congrArg Prod.snd hjs
  subst hjs
  have hs12 : Hp.Sub σ2 σ12 := ho.sub
  have hrd : RdS sJ σ12 A n exJ := ho.rd
  have hn2 : n = 2 := hrd.1
  subst hn2
  refine ⟨_, _, _, _, rfl, ?_⟩
  refine AY FG (OW (l := exL) (t := 2) (hin.up hs12) (show 4 ≤ _ by decide) (show 4 ≤ _ by decide)) ?_
  rintro v σ16 ⟨rfl, (⟨e, _⟩ | ⟨_, (⟨hn, _⟩ | ⟨h, rfl, hh⟩)⟩)⟩
  · exact absurd Te e
  · exact absurd hn RS
  obtain rfl := SV hh
  refine ⟨_, _, rfl, ?_⟩
  refine AX (fun _ => ?_) (fun h => absurd rfl h)
  refine AX (fun _ => ?_) (fun h => absurd rfl h)
  refine AX (fun _ => ?_) (fun h => absurd rfl h)
  refine AX (fun _ => ?_) (fun h => absurd rfl h)
  refine Oj hrd (by decide) (by decide) fun x hx => ?_
  have hx : ((1 : Int), (15 : Int)) = x := hx
  subst hx
  exact Bs (hs2.trans hs12) ⟨rfl, rfl⟩
theorem MZ {K : Bool → Hp → Prop} (h : K true σ) : cl Try.prog (.func (.func HG) #[] #[]) #[] σ fun v σ' => ∃ t : Bool, (v = .bool t ∧ K t σ') :=
  clB HC Sb h
def Mc (m : Mp) : Bool := decide (20 < m.pk.length) || decide (40 < m.rs.length)
theorem PC {m : Mp} (h : Mc m = false) : m.pk.length ≤ 20 ∧ m.rs.length ≤ 40 := by
  unfold Mc at h
  simp only [Bool.or_eq_false_iff, decide_eq_false_iff_not] at h
  omega
theorem Ul {w : MW} {m : Mp} (h : MIn σ w m) : Ah Try.prog Nv #[w.v] σ fun v σ' => v = .bool (Mc m) ∧ σ' = σ := by
  refine KV _ _ _ _ _ _ _ _ ?_
  unfold GT Mc
  have hpn := h.pn
  have hrn := h.rn
  refine AX (fun e => Ay ⟨?_, rfl⟩) (fun e => Ay ⟨?_, rfl⟩)
  · rw [decide_eq_true (show 20 < m.pk.length by omega)]
    rfl
  · rw [decide_eq_false (show ¬ 20 < m.pk.length by omega), Bool.false_or]
    congr 1
    rw [decide_eq_decide]
    omega
theorem Q3 {w : MW} {m : Mp} (h : MIn σ w m) (hf : Mc m = false) : Ah Try.prog Mj #[w.v] σ fun v σ' => ∃ (w' : MW) (s : Hp), v = w'.v ∧ Au 4 [.bool] σ w'.pA w'.pn w'.pc m.pk s ∧ Au 51 sR s w'.rA w'.rn w'.rc m.rs σ' := by
  refine Kc _ _ _ _ _ _ _ _ ?_
  unfold F3
  obtain ⟨h1, h2⟩ := PC hf
  refine ⟨⟨m.pk, h.p, BP (by show 0 + m.pk.length ≤ _; omega) ⟨m.rs, h.r, BP (by show 0 + m.rs.length ≤ _; omega) ?_⟩⟩, ⟨m.pk, h.p, BP (by show 0 + m.pk.length ≤ _; omega) ⟨m.rs, h.r, BP (by show 0 + m.rs.length ≤ _; omega) ?_⟩⟩⟩
  · intro A3 l3 c3 σ4 h3 A5 l5 c5 σ6 h5
    exact Ay ⟨⟨A3, l3, c3, A5, l5, c5⟩, σ4, rfl, h3, h5⟩
  · intro A3 l3 c3 σ4 h3 A5 l5 c5 σ6 h5
    exact Ay ⟨⟨A3, l3, c3, A5, l5, c5⟩, σ4, rfl, h3, h5⟩
theorem H3 {A : Option Addr} {n c : Nat} {j : List Leg} (hj : RdS sJ σ A n j) (hl : j.length ≤ 4294967296) : Ah Try.prog IU #[.slice A n c] σ fun v σ' => ∃ A' n' c', v = .slice A' n' c' ∧ Au 60 sJ σ A' n' c' j σ' := by
  refine Kj _ _ _ _ _ ?_
  unfold FA
  refine ⟨j, hj, BP (by show 0 + j.length ≤ _; omega) ?_⟩
  intro A3 l3 c3 σ4 h3
  exact Ay ⟨A3, l3, c3, rfl, h3⟩
theorem TY {A : Option Addr} {n c : Nat} {j : List Leg} {K : Option Addr → Nat → Nat → Hp → Prop} (hj : RdS sJ σ A n j) (hl : j.length ≤ 4294967296) (hk : ∀ A' n' c' σ', Hp.Sub σ σ' → RdS sJ σ' A' n' j → K A' n' c' σ') :
    cl Try.prog (.func (.func IU) #[] #[]) #[.slice A n c] σ fun v σ' => ∃ A10 : Option Addr, ∃ l10 : Nat, ∃ c10 : Nat, (v = (.slice A10 l10 c10) ∧ (Hp.Sub σ σ' ∧ K A10 l10 c10 σ')) := by
  refine AY Ie (H3 hj hl) ?_
  rintro v σ' ⟨A', n', c', rfl, ho⟩
  exact ⟨_, _, _, rfl, ho.sub, hk _ _ _ _ ho.sub ho.rd⟩
end
end Go.Proofs.Ytkdjkkimngeloaa
