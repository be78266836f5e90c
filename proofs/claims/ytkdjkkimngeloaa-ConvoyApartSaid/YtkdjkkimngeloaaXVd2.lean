/- Trimmed by wip/trim.py to what this claim rests on. -/
import Derived.Test.YtkdjkkimngeloaaXVd1
import Derived.Test.YtkdjkkimngeloaaXW1
namespace Go.Proofs.Ytkdjkkimngeloaa
open Go.RowKit
def exJ : List Leg := [(0, 0), (1, 15)]
section
variable {σ : Hp}
set_option maxRecDepth 100000 in
theorem RD : Af Try.prog He #[] σ fun v σ' => v = .bool true ∧ σ' = σ := by
  refine IT _ _ ?_
  unfold EJ
  have ex : Af Try.prog Jo #[] σ fun v σ' => ∃ w : MW, v = .tuple #[w.v, exL.v] ∧ Hp.Sub σ σ' ∧ MIn σ' w exM := by
    refine HB _ _ ?_
    intro A1 l1 c1 σ2 h1 A3 l3 c3 σ4 h3
    exact AC ⟨⟨A1, l1, c1, A3, l3, c3⟩, rfl, (Ap.sub h1).trans (Ap.sub h3), (Ap.rd h1).sub (Ap.sub h3), Ap.rd h3⟩
  refine Bg F1 ex ?_
  rintro v σ2 ⟨w, rfl, hs2, hin⟩
  refine ⟨_, _, _, _, _, _, _, _, _, _, _, _, rfl, ?_⟩
  refine Bg Gb (PZ (l := exL) (t := 2) hin (show 4 ≤ _ by decide) (show 4 ≤ _ by decide)) ?_
  rintro v σ12 (⟨e, _⟩ | ⟨_, (⟨hn, _⟩ | ⟨A, n, c, js, a, rfl, ho, hb⟩)⟩)
  · exact absurd Si e
  · exact absurd hn fun hn => by
      obtain ⟨s, h1, h2, h3, _⟩ := OB
      exact hn (s.tn, s.dv) _ h2 ⟨_, s, h1, rfl, rfl⟩
  have hjs : (a, js) = (25, exJ) := hb.uniq OB
  have hjs : js = exJ := congrArg Prod.snd hjs
  subst hjs
  have hs12 : Hp.Sub σ2 σ12 := ho.sub
  have hrd : RdS sJ σ12 A n exJ := ho.rd
  have hn2 : n = 2 := hrd.1
  subst hn2
  refine ⟨_, _, _, _, rfl, ?_⟩
  refine Bg FJ (N9 (l := exL) (t := 2) (hin.up hs12) (show 4 ≤ _ by decide) (show 4 ≤ _ by decide)) ?_
  rintro v σ16 ⟨rfl, (⟨e, _⟩ | ⟨_, (⟨hn, _⟩ | ⟨h, rfl, hh⟩)⟩)⟩
  · exact absurd Si e
  · exact absurd hn Rf
  obtain rfl := Se hh
  refine ⟨_, _, rfl, ?_⟩
  refine Bd (fun _ => ?_) (fun h => absurd rfl h)
  refine Bd (fun _ => ?_) (fun h => absurd rfl h)
  refine Bd (fun _ => ?_) (fun h => absurd rfl h)
  refine Bd (fun _ => ?_) (fun h => absurd rfl h)
  refine N1 hrd (by decide) (by decide) fun x hx => ?_
  have hx : ((1 : Int), (15 : Int)) = x := hx
  subst hx
  exact BN (hs2.trans hs12) ⟨rfl, rfl⟩
theorem JH {K : Bool → Hp → Prop} (h : K true σ) : cl Try.prog (.func (.func He) #[] #[]) #[] σ fun v σ' => ∃ t : Bool, (v = .bool t ∧ K t σ') :=
  clB G7 RD h
def NQ (m : Mp) : Bool := decide (20 < m.pk.length) || decide (40 < m.rs.length)
theorem R1 {m : Mp} (h : NQ m = false) : m.pk.length ≤ 20 ∧ m.rs.length ≤ 40 := by
  unfold NQ at h
  simp only [Bool.or_eq_false_iff, decide_eq_false_iff_not] at h
  omega
theorem Ts {w : MW} {m : Mp} (h : MIn σ w m) : Af Try.prog Mc #[w.v] σ fun v σ' => v = .bool (NQ m) ∧ σ' = σ := by
  refine JL _ _ _ _ _ _ _ _ ?_
  unfold Gq NQ
  have hpn := h.pn
  have hrn := h.rn
  refine Bd (fun e => AC ⟨?_, rfl⟩) (fun e => AC ⟨?_, rfl⟩)
  · rw [decide_eq_true (show 20 < m.pk.length by omega)]
    rfl
  · rw [decide_eq_false (show ¬ 20 < m.pk.length by omega), Bool.false_or]
    congr 1
    rw [decide_eq_decide]
    omega
theorem S9 {w : MW} {m : Mp} (h : MIn σ w m) (hf : NQ m = false) : Af Try.prog Lu #[w.v] σ fun v σ' => ∃ (w' : MW) (s : Hp), v = w'.v ∧ Ap 4 [.bool] σ w'.pA w'.pn w'.pc m.pk s ∧ Ap 51 sR s w'.rA w'.rn w'.rc m.rs σ' := by
  refine Jp _ _ _ _ _ _ _ _ ?_
  unfold FK
  obtain ⟨h1, h2⟩ := R1 hf
  refine ⟨⟨m.pk, h.p, Bh (by show 0 + m.pk.length ≤ _; omega) ⟨m.rs, h.r, Bh (by show 0 + m.rs.length ≤ _; omega) ?_⟩⟩, ⟨m.pk, h.p, Bh (by show 0 + m.pk.length ≤ _; omega) ⟨m.rs, h.r, Bh (by show 0 + m.rs.length ≤ _; omega) ?_⟩⟩⟩
  · intro A3 l3 c3 σ4 h3 A5 l5 c5 σ6 h5
    exact AC ⟨⟨A3, l3, c3, A5, l5, c5⟩, σ4, rfl, h3, h5⟩
  · intro A3 l3 c3 σ4 h3 A5 l5 c5 σ6 h5
    exact AC ⟨⟨A3, l3, c3, A5, l5, c5⟩, σ4, rfl, h3, h5⟩
theorem IF {A : Option Addr} {n c : Nat} {j : List Leg} (hj : RdS sJ σ A n j) (hl : j.length ≤ 4294967296) : Af Try.prog Li #[.slice A n c] σ fun v σ' => ∃ A' n' c', v = .slice A' n' c' ∧ Ap 60 sJ σ A' n' c' j σ' := by
  refine Jr _ _ _ _ _ ?_
  unfold Fs
  refine ⟨j, hj, Bh (by show 0 + j.length ≤ _; omega) ?_⟩
  intro A3 l3 c3 σ4 h3
  exact AC ⟨A3, l3, c3, rfl, h3⟩
end
end Go.Proofs.Ytkdjkkimngeloaa
