/- Trimmed by wip/trim.py to what this claim rests on. -/
import Derived.Test.YtkdjkkimngeloaaXVd1
import Derived.Test.YtkdjkkimngeloaaXW1
namespace Go.Proofs.Ytkdjkkimngeloaa
open Go.RowKit
def exJ : List Leg := [(0, 0), (1, 15)]
section
variable {σ : Hp}
set_option maxRecDepth 100000 in
theorem QZ : Ae Try.prog GM #[] σ fun v σ' => v = .bool true ∧ σ' = σ := by
  refine IF _ _ ?_
  unfold Ei
  have ex : Ae Try.prog Jj #[] σ fun v σ' => ∃ w : MW, v = .tuple #[w.v, exL.v] ∧ Hp.Sub σ σ' ∧ MIn σ' w exM := by
    refine GQ _ _ ?_
    intro A1 l1 c1 σ2 h1 A3 l3 c3 σ4 h3
    exact Ax ⟨⟨A1, l1, c1, A3, l3, c3⟩, rfl, (AA.sub h1).trans (AA.sub h3), (AA.rd h1).sub (AA.sub h3), AA.rd h3⟩
  refine Bj Fx ex ?_
  rintro v σ2 ⟨w, rfl, hs2, hin⟩
  refine ⟨_, _, _, _, _, _, _, _, _, _, _, _, rfl, ?_⟩
  refine Bj B0 (Kd (l := exL) (t := 2) hin (show 4 ≤ _ by decide) (show 4 ≤ _ by decide)) ?_
  rintro v σ12 (⟨e, _⟩ | ⟨_, (⟨hn, _⟩ | ⟨A, n, c, js, a, rfl, ho, hb⟩)⟩)
  · exact absurd RN e
  · exact absurd hn fun hn => by
      obtain ⟨s, h1, h2, h3, _⟩ := N0
      exact hn (s.tn, s.dv) _ h2 ⟨_, s, h1, rfl, rfl⟩
  have hjs : (a, js) = (25, exJ) := hb.uniq N0
  have hjs : js = exJ := congrArg Prod.snd hjs
  subst hjs
  have hs12 : Hp.Sub σ2 σ12 := ho.sub
  have hrd : RdS sJ σ12 A n exJ := ho.rd
  have hn2 : n = 2 := hrd.1
  subst hn2
  refine ⟨_, _, _, _, rfl, ?_⟩
  refine Bj CD (Ki (l := exL) (t := 2) (hin.up hs12) (show 4 ≤ _ by decide) (show 4 ≤ _ by decide)) ?_
  rintro v σ16 ⟨rfl, (⟨e, _⟩ | ⟨_, (⟨hn, _⟩ | ⟨h, rfl, hh⟩)⟩)⟩
  · exact absurd RN e
  · exact absurd hn PK
  obtain rfl := RA hh
  refine ⟨_, _, rfl, ?_⟩
  refine A0 (fun _ => ?_) (fun h => absurd rfl h)
  refine A0 (fun _ => ?_) (fun h => absurd rfl h)
  refine A0 (fun _ => ?_) (fun h => absurd rfl h)
  refine A0 (fun _ => ?_) (fun h => absurd rfl h)
  refine Pu hrd (by decide) (by decide) fun x hx => ?_
  have hx : ((1 : Int), (15 : Int)) = x := hx
  subst hx
  exact Cr (hs2.trans hs12) ⟨rfl, rfl⟩
theorem JA {K : Bool → Hp → Prop} (h : K true σ) : cl Try.prog (.func (.func GM) #[] #[]) #[] σ fun v σ' => ∃ t : Bool, (v = .bool t ∧ K t σ') :=
  clB GA QZ h
def ML (m : Mp) : Bool := decide (20 < m.pk.length) || decide (40 < m.rs.length)
theorem Q7 {m : Mp} (h : ML m = false) : m.pk.length ≤ 20 ∧ m.rs.length ≤ 40 := by
  unfold ML at h
  simp only [Bool.or_eq_false_iff, decide_eq_false_iff_not] at h
  omega
theorem SL {w : MW} {m : Mp} (h : MIn σ w m) : Ae Try.prog Mz #[w.v] σ fun v σ' => v = .bool (ML m) ∧ σ' = σ := by
  refine Ka _ _ _ _ _ _ _ _ ?_
  unfold FM ML
  have hpn := h.pn
  have hrn := h.rn
  refine A0 (fun e => Ax ⟨?_, rfl⟩) (fun e => Ax ⟨?_, rfl⟩)
  · rw [decide_eq_true (show 20 < m.pk.length by omega)]
    rfl
  · rw [decide_eq_false (show ¬ 20 < m.pk.length by omega), Bool.false_or]
    congr 1
    rw [decide_eq_decide]
    omega
theorem Sv {w : MW} {m : Mp} (h : MIn σ w m) (hf : ML m = false) : Ae Try.prog HX #[w.v] σ fun v σ' => ∃ (w' : MW) (s : Hp), v = w'.v ∧ AA 4 [.bool] σ w'.pA w'.pn w'.pc m.pk s ∧ AA 51 sR s w'.rA w'.rn w'.rc m.rs σ' := by
  refine Jn _ _ _ _ _ _ _ _ ?_
  unfold Fj
  obtain ⟨h1, h2⟩ := Q7 hf
  refine ⟨⟨m.pk, h.p, Ck (by show 0 + m.pk.length ≤ _; omega) ⟨m.rs, h.r, Ck (by show 0 + m.rs.length ≤ _; omega) ?_⟩⟩, ⟨m.pk, h.p, Ck (by show 0 + m.pk.length ≤ _; omega) ⟨m.rs, h.r, Ck (by show 0 + m.rs.length ≤ _; omega) ?_⟩⟩⟩
  · intro A3 l3 c3 σ4 h3 A5 l5 c5 σ6 h5
    exact Ax ⟨⟨A3, l3, c3, A5, l5, c5⟩, σ4, rfl, h3, h5⟩
  · intro A3 l3 c3 σ4 h3 A5 l5 c5 σ6 h5
    exact Ax ⟨⟨A3, l3, c3, A5, l5, c5⟩, σ4, rfl, h3, h5⟩
theorem Nr {w : MW} {m : Mp} {K : Option Addr → Nat → Nat → Option Addr → Nat → Nat → Hp → Prop} (h : MIn σ w m) (hf : ML m = false) (hk : ∀ (w' : MW) σ', Hp.Sub σ σ' → MIn σ' w' m → K w'.pA w'.pn w'.pc w'.rA w'.rn w'.rc σ') :
    cl Try.prog (.func (.func HX) #[] #[]) #[w.v] σ fun v σ' => ∃ A9 : Option Addr, ∃ l9 : Nat, ∃ c9 : Nat, ∃ A10 : Option Addr, ∃ l10 : Nat, ∃ c10 : Nat, (v = (.agg #[(.slice A9 l9 c9), (.slice A10 l10 c10)]) ∧ (Hp.Sub σ σ' ∧ K A9 l9 c9 A10 l10 c10 σ')) := by
  refine Bj G6 (Sv h hf) ?_
  rintro v σ' ⟨w', s, rfl, h1, h2⟩
  have hs := (AA.sub h1).trans (AA.sub h2)
  exact ⟨_, _, _, _, _, _, rfl, hs, hk w' σ' hs ⟨(AA.rd h1).sub (AA.sub h2), AA.rd h2⟩⟩
theorem IC {A : Option Addr} {n c : Nat} {j : List Leg} (hj : RdS sJ σ A n j) (hl : j.length ≤ 4294967296) : Ae Try.prog LS #[.slice A n c] σ fun v σ' => ∃ A' n' c', v = .slice A' n' c' ∧ AA 60 sJ σ A' n' c' j σ' := by
  refine Jh _ _ _ _ _ ?_
  unfold ES
  refine ⟨j, hj, Ck (by show 0 + j.length ≤ _; omega) ?_⟩
  intro A3 l3 c3 σ4 h3
  exact Ax ⟨A3, l3, c3, rfl, h3⟩
end
end Go.Proofs.Ytkdjkkimngeloaa
