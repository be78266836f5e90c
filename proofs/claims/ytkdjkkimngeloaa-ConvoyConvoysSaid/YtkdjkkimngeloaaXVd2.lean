/- Trimmed by wip/trim.py to what this claim rests on. -/
import Derived.Test.YtkdjkkimngeloaaXVd1
import Derived.Test.YtkdjkkimngeloaaXW1
namespace Go.Proofs.Ytkdjkkimngeloaa
open Go.RowKit
def exJ : List Leg := [(0, 0), (1, 15)]
section
variable {σ : Hp}
set_option maxRecDepth 100000 in
theorem Rf : Ag Try.prog Hd #[] σ fun v σ' => v = .bool true ∧ σ' = σ := by
  refine IN _ _ ?_
  unfold Eo
  have ex : Ag Try.prog Jo #[] σ fun v σ' => ∃ w : MW, v = .tuple #[w.v, exL.v] ∧ Hp.Sub σ σ' ∧ MIn σ' w exM := by
    refine Hs _ _ ?_
    intro A1 l1 c1 σ2 h1 A3 l3 c3 σ4 h3
    exact Aw ⟨⟨A1, l1, c1, A3, l3, c3⟩, rfl, (AB.sub h1).trans (AB.sub h3), (AB.rd h1).sub (AB.sub h3), AB.rd h3⟩
  refine BN FV ex ?_
  rintro v σ2 ⟨w, rfl, hs2, hin⟩
  refine ⟨_, _, _, _, _, _, _, _, _, _, _, _, rfl, ?_⟩
  refine BN Gl (QP (l := exL) (t := 2) hin (show 4 ≤ _ by decide) (show 4 ≤ _ by decide)) ?_
  rintro v σ12 (⟨e, _⟩ | ⟨_, (⟨hn, _⟩ | ⟨A, n, c, js, a, rfl, ho, hb⟩)⟩)
  · exact absurd RA e
  · exact absurd hn fun hn => by
      obtain ⟨s, h1, h2, h3, _⟩ := OB
      exact hn (s.tn, s.dv) _ h2 ⟨_, s, h1, rfl, rfl⟩
  have hjs : (a, js) = (25, exJ) := hb.uniq OB
  have hjs : js = exJ := congrArg Prod.snd hjs
  subst hjs
  have hs12 : Hp.Sub σ2 σ12 := ho.sub
  have hrd : RdS sJ σ12 A n exJ := ho.rd
  have hn2 : n = 2 := hrd.1
  subst hn2
  refine ⟨_, _, _, _, rfl, ?_⟩
  refine BN Fw (NS (l := exL) (t := 2) (hin.up hs12) (show 4 ≤ _ by decide) (show 4 ≤ _ by decide)) ?_
  rintro v σ16 ⟨rfl, (⟨e, _⟩ | ⟨_, (⟨hn, _⟩ | ⟨h, rfl, hh⟩)⟩)⟩
  · exact absurd RA e
  · exact absurd hn Qa
  obtain rfl := Rw hh
  refine ⟨_, _, rfl, ?_⟩
  refine Bm (fun _ => ?_) (fun h => absurd rfl h)
  refine Bm (fun _ => ?_) (fun h => absurd rfl h)
  refine Bm (fun _ => ?_) (fun h => absurd rfl h)
  refine Bm (fun _ => ?_) (fun h => absurd rfl h)
  refine Ll hrd (by decide) (by decide) fun x hx => ?_
  have hx : ((1 : Int), (15 : Int)) = x := hx
  subst hx
  exact BU (hs2.trans hs12) ⟨rfl, rfl⟩
theorem LG {K : Bool → Hp → Prop} (h : K true σ) : cl Try.prog (.func (.func Hd) #[] #[]) #[] σ fun v σ' => ∃ t : Bool, (v = .bool t ∧ K t σ') :=
  clB G4 Rf h
def N0 (m : Mp) : Bool := decide (20 < m.pk.length) || decide (40 < m.rs.length)
theorem Od {m : Mp} (h : N0 m = false) : m.pk.length ≤ 20 ∧ m.rs.length ≤ 40 := by
  unfold N0 at h
  simp only [Bool.or_eq_false_iff, decide_eq_false_iff_not] at h
  omega
theorem SB {w : MW} {m : Mp} (h : MIn σ w m) : Ag Try.prog Na #[w.v] σ fun v σ' => v = .bool (N0 m) ∧ σ' = σ := by
  refine KD _ _ _ _ _ _ _ _ ?_
  unfold Gk N0
  have hpn := h.pn
  have hrn := h.rn
  refine Bm (fun e => Aw ⟨?_, rfl⟩) (fun e => Aw ⟨?_, rfl⟩)
  · rw [decide_eq_true (show 20 < m.pk.length by omega)]
    rfl
  · rw [decide_eq_false (show ¬ 20 < m.pk.length by omega), Bool.false_or]
    congr 1
    rw [decide_eq_decide]
    omega
theorem RZ {w : MW} {m : Mp} (h : MIn σ w m) (hf : N0 m = false) : Ag Try.prog FD #[w.v] σ fun v σ' => ∃ (w' : MW) (s : Hp), v = w'.v ∧ AB 4 [.bool] σ w'.pA w'.pn w'.pc m.pk s ∧ AB 51 sR s w'.rA w'.rn w'.rc m.rs σ' := by
  refine JC _ _ _ _ _ _ _ _ ?_
  unfold Fk
  obtain ⟨h1, h2⟩ := Od hf
  refine ⟨⟨m.pk, h.p, CE (by show 0 + m.pk.length ≤ _; omega) ⟨m.rs, h.r, CE (by show 0 + m.rs.length ≤ _; omega) ?_⟩⟩, ⟨m.pk, h.p, CE (by show 0 + m.pk.length ≤ _; omega) ⟨m.rs, h.r, CE (by show 0 + m.rs.length ≤ _; omega) ?_⟩⟩⟩
  · intro A3 l3 c3 σ4 h3 A5 l5 c5 σ6 h5
    exact Aw ⟨⟨A3, l3, c3, A5, l5, c5⟩, σ4, rfl, h3, h5⟩
  · intro A3 l3 c3 σ4 h3 A5 l5 c5 σ6 h5
    exact Aw ⟨⟨A3, l3, c3, A5, l5, c5⟩, σ4, rfl, h3, h5⟩
theorem Hy {w : MW} {m : Mp} {K : Option Addr → Nat → Nat → Option Addr → Nat → Nat → Hp → Prop} (h : MIn σ w m) (hf : N0 m = false) (hk : ∀ (w' : MW) σ', Hp.Sub σ σ' → MIn σ' w' m → K w'.pA w'.pn w'.pc w'.rA w'.rn w'.rc σ') :
    cl Try.prog (.func (.func FD) #[] #[]) #[w.v] σ fun v σ' => ∃ A9 : Option Addr, ∃ l9 : Nat, ∃ c9 : Nat, ∃ A10 : Option Addr, ∃ l10 : Nat, ∃ c10 : Nat, (v = (.agg #[(.slice A9 l9 c9), (.slice A10 l10 c10)]) ∧ (Hp.Sub σ σ' ∧ K A9 l9 c9 A10 l10 c10 σ')) := by
  refine BN Hn (RZ h hf) ?_
  rintro v σ' ⟨w', s, rfl, h1, h2⟩
  have hs := (AB.sub h1).trans (AB.sub h2)
  exact ⟨_, _, _, _, _, _, rfl, hs, hk w' σ' hs ⟨(AB.rd h1).sub (AB.sub h2), AB.rd h2⟩⟩
theorem Iz {A : Option Addr} {n c : Nat} {j : List Leg} (hj : RdS sJ σ A n j) (hl : j.length ≤ 4294967296) : Ag Try.prog L0 #[.slice A n c] σ fun v σ' => ∃ A' n' c', v = .slice A' n' c' ∧ AB 60 sJ σ A' n' c' j σ' := by
  refine Jy _ _ _ _ _ ?_
  unfold FI
  refine ⟨j, hj, CE (by show 0 + j.length ≤ _; omega) ?_⟩
  intro A3 l3 c3 σ4 h3
  exact Aw ⟨A3, l3, c3, rfl, h3⟩
end
end Go.Proofs.Ytkdjkkimngeloaa
