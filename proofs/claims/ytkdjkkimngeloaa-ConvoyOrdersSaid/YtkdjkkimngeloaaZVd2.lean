/- Trimmed by wip/trim.py to what this claim rests on. -/
import Derived.Test.YtkdjkkimngeloaaZVd1
import Derived.Test.YtkdjkkimngeloaaZW1
namespace Go.Proofs.Ytkdjkkimngeloaa
open Go.RowKit
def exJ : List Leg := [(0, 0), (1, 15)]
section
variable {σ : Hp}
set_option maxRecDepth 100000 in
theorem UI : Ag Try.prog IM #[] σ fun v σ' => v = .bool true ∧ σ' = σ := by
  refine KP _ _ ?_
  unfold Fi
  have ex : Ag Try.prog Ls #[] σ fun v σ' => ∃ w : MW, v = .tuple #[w.v, exL.v] ∧ Hp.Sub σ σ' ∧ MIn σ' w exM := by
    refine Jg _ _ ?_
    intro A1 l1 c1 σ2 h1 A3 l3 c3 σ4 h3
    exact Av ⟨⟨A1, l1, c1, A3, l3, c3⟩, rfl, (Aj.sub h1).trans (Aj.sub h3), (Aj.rd h1).sub (Aj.sub h3), Aj.rd h3⟩
  refine AV Hk ex ?_
  rintro v σ2 ⟨w, rfl, hs2, hin⟩
  refine ⟨_, _, _, _, _, _, _, _, _, _, _, _, rfl, ?_⟩
  refine AV HF (SH (l := exL) (t := 2) hin (show 4 ≤ _ by decide) (show 4 ≤ _ by decide)) ?_
  rintro v σ12 (⟨e, _⟩ | ⟨_, (⟨hn, _⟩ | ⟨A, n, c, js, a, rfl, ho, hb⟩)⟩)
  · exact absurd Va e
  · exact absurd hn fun hn => by
      obtain ⟨s, h1, h2, h3, _⟩ := Ry
      exact hn (s.tn, s.dv) _ h2 ⟨_, s, h1, rfl, rfl⟩
  have hjs : (a, js) = (25, exJ) := hb.uniq Ry
  have hjs : js = exJ := congrArg Prod.snd hjs
  subst hjs
  have hs12 : Hp.Sub σ2 σ12 := ho.sub
  have hrd : RdS sJ σ12 A n exJ := ho.rd
  have hn2 : n = 2 := hrd.1
  subst hn2
  refine ⟨_, _, _, _, rfl, ?_⟩
  refine AV Gj (Qd (l := exL) (t := 2) (hin.up hs12) (show 4 ≤ _ by decide) (show 4 ≤ _ by decide)) ?_
  rintro v σ16 ⟨rfl, (⟨e, _⟩ | ⟨_, (⟨hn, _⟩ | ⟨h, rfl, hh⟩)⟩)⟩
  · exact absurd Va e
  · exact absurd hn TH
  obtain rfl := UW hh
  refine ⟨_, _, rfl, ?_⟩
  refine AK (fun _ => ?_) (fun h => absurd rfl h)
  refine AK (fun _ => ?_) (fun h => absurd rfl h)
  refine AK (fun _ => ?_) (fun h => absurd rfl h)
  refine AK (fun _ => ?_) (fun h => absurd rfl h)
  refine T1 hrd (by decide) (by decide) fun x hx => ?_
  have hx : ((1 : Int), (15 : Int)) = x := hx
  subst hx
  exact CY (hs2.trans hs12) ⟨rfl, rfl⟩
theorem NZ {K : Bool → Hp → Prop} (h : K true σ) : cl Try.prog (.func (.func IM) #[] #[]) #[] σ fun v σ' => ∃ t : Bool, (v = .bool t ∧ K t σ') :=
  clB IG UI h
def Ql (m : Mp) : Bool := decide (20 < m.pk.length) || decide (40 < m.rs.length)
theorem Um {m : Mp} (h : Ql m = false) : m.pk.length ≤ 20 ∧ m.rs.length ≤ 40 := by
  unfold Ql at h
  simp only [Bool.or_eq_false_iff, decide_eq_false_iff_not] at h
  omega
theorem Wf {w : MW} {m : Mp} (h : MIn σ w m) : Ag Try.prog Ph #[w.v] σ fun v σ' => v = .bool (Ql m) ∧ σ' = σ := by
  refine L0 _ _ _ _ _ _ _ _ ?_
  unfold HB Ql
  have hpn := h.pn
  have hrn := h.rn
  refine AK (fun e => Av ⟨?_, rfl⟩) (fun e => Av ⟨?_, rfl⟩)
  · rw [decide_eq_true (show 20 < m.pk.length by omega)]
    rfl
  · rw [decide_eq_false (show ¬ 20 < m.pk.length by omega), Bool.false_or]
    congr 1
    rw [decide_eq_decide]
    omega
theorem Vo {w : MW} {m : Mp} (h : MIn σ w m) (hf : Ql m = false) : Ag Try.prog Ow #[w.v] σ fun v σ' => ∃ (w' : MW) (s : Hp), v = w'.v ∧ Aj 4 [.bool] σ w'.pA w'.pn w'.pc m.pk s ∧ Aj 51 sR s w'.rA w'.rn w'.rc m.rs σ' := by
  refine Lz _ _ _ _ _ _ _ _ ?_
  unfold GI
  obtain ⟨h1, h2⟩ := Um hf
  refine ⟨⟨m.pk, h.p, Bb (by show 0 + m.pk.length ≤ _; omega) ⟨m.rs, h.r, Bb (by show 0 + m.rs.length ≤ _; omega) ?_⟩⟩, ⟨m.pk, h.p, Bb (by show 0 + m.pk.length ≤ _; omega) ⟨m.rs, h.r, Bb (by show 0 + m.rs.length ≤ _; omega) ?_⟩⟩⟩
  · intro A3 l3 c3 σ4 h3 A5 l5 c5 σ6 h5
    exact Av ⟨⟨A3, l3, c3, A5, l5, c5⟩, σ4, rfl, h3, h5⟩
  · intro A3 l3 c3 σ4 h3 A5 l5 c5 σ6 h5
    exact Av ⟨⟨A3, l3, c3, A5, l5, c5⟩, σ4, rfl, h3, h5⟩
theorem KA {A : Option Addr} {n c : Nat} {j : List Leg} (hj : RdS sJ σ A n j) (hl : j.length ≤ 4294967296) : Ag Try.prog NW #[.slice A n c] σ fun v σ' => ∃ A' n' c', v = .slice A' n' c' ∧ Aj 60 sJ σ A' n' c' j σ' := by
  refine Lv _ _ _ _ _ ?_
  unfold GG
  refine ⟨j, hj, Bb (by show 0 + j.length ≤ _; omega) ?_⟩
  intro A3 l3 c3 σ4 h3
  exact Av ⟨A3, l3, c3, rfl, h3⟩
end
end Go.Proofs.Ytkdjkkimngeloaa
