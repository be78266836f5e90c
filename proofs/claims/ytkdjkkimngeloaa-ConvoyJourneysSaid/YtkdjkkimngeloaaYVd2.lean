/- Trimmed by wip/trim.py to what this claim rests on. -/
import Derived.Test.YtkdjkkimngeloaaYVd1
import Derived.Test.YtkdjkkimngeloaaYW1
namespace Go.Proofs.Ytkdjkkimngeloaa
open Go.RowKit
def exJ : List Leg := [(0, 0), (1, 15)]
section
variable {σ : Hp}
set_option maxRecDepth 100000 in
theorem QF : Ag Try.prog GE #[] σ fun v σ' => v = .bool true ∧ σ' = σ := by
  refine Ih _ _ ?_
  unfold Ed
  have ex : Ag Try.prog IV #[] σ fun v σ' => ∃ w : MW, v = .tuple #[w.v, exL.v] ∧ Hp.Sub σ σ' ∧ MIn σ' w exM := by
    refine GL _ _ ?_
    intro A1 l1 c1 σ2 h1 A3 l3 c3 σ4 h3
    exact Ax ⟨⟨A1, l1, c1, A3, l3, c3⟩, rfl, (Ay.sub h1).trans (Ay.sub h3), (Ay.rd h1).sub (Ay.sub h3), Ay.rd h3⟩
  refine Bx Fw ex ?_
  rintro v σ2 ⟨w, rfl, hs2, hin⟩
  refine ⟨_, _, _, _, _, _, _, _, _, _, _, _, rfl, ?_⟩
  refine Bx FN (PD (l := exL) (t := 2) hin (show 4 ≤ _ by decide) (show 4 ≤ _ by decide)) ?_
  rintro v σ12 (⟨e, _⟩ | ⟨_, (⟨hn, _⟩ | ⟨A, n, c, js, a, rfl, ho, hb⟩)⟩)
  · exact absurd QT e
  · exact absurd hn fun hn => by
      obtain ⟨s, h1, h2, h3, _⟩ := N7
      exact hn (s.tn, s.dv) _ h2 ⟨_, s, h1, rfl, rfl⟩
  have hjs : (a, js) = (25, exJ) := hb.uniq N7
  have hjs : js = exJ := congrArg Prod.snd hjs
  subst hjs
  have hs12 : Hp.Sub σ2 σ12 := ho.sub
  have hrd : RdS sJ σ12 A n exJ := ho.rd
  have hn2 : n = 2 := hrd.1
  subst hn2
  refine ⟨_, _, _, _, rfl, ?_⟩
  refine Bx EQ (MU (l := exL) (t := 2) (hin.up hs12) (show 4 ≤ _ by decide) (show 4 ≤ _ by decide)) ?_
  rintro v σ16 ⟨rfl, (⟨e, _⟩ | ⟨_, (⟨hn, _⟩ | ⟨h, rfl, hh⟩)⟩)⟩
  · exact absurd QT e
  · exact absurd hn PV
  obtain rfl := QP hh
  refine ⟨_, _, rfl, ?_⟩
  refine Br (fun _ => ?_) (fun h => absurd rfl h)
  refine Br (fun _ => ?_) (fun h => absurd rfl h)
  refine Br (fun _ => ?_) (fun h => absurd rfl h)
  refine Br (fun _ => ?_) (fun h => absurd rfl h)
  refine Ln hrd (by decide) (by decide) fun x hx => ?_
  have hx : ((1 : Int), (15 : Int)) = x := hx
  subst hx
  exact Bu (hs2.trans hs12) ⟨rfl, rfl⟩
theorem N1 {K : Bool → Hp → Prop} (h : K true σ) : cl Try.prog (.func (.func GE) #[] #[]) #[] σ fun v σ' => ∃ t : Bool, (v = .bool t ∧ K t σ') :=
  clB Gy QF h
def M5 (m : Mp) : Bool := decide (20 < m.pk.length) || decide (40 < m.rs.length)
theorem NI {m : Mp} (h : M5 m = false) : m.pk.length ≤ 20 ∧ m.rs.length ≤ 40 := by
  unfold M5 at h
  simp only [Bool.or_eq_false_iff, decide_eq_false_iff_not] at h
  omega
theorem RV {w : MW} {m : Mp} (h : MIn σ w m) : Ag Try.prog LW #[w.v] σ fun v σ' => v = .bool (M5 m) ∧ σ' = σ := by
  refine Jt _ _ _ _ _ _ _ _ ?_
  unfold FQ M5
  have hpn := h.pn
  have hrn := h.rn
  refine Br (fun e => Ax ⟨?_, rfl⟩) (fun e => Ax ⟨?_, rfl⟩)
  · rw [decide_eq_true (show 20 < m.pk.length by omega)]
    rfl
  · rw [decide_eq_false (show ¬ 20 < m.pk.length by omega), Bool.false_or]
    congr 1
    rw [decide_eq_decide]
    omega
theorem Rd {w : MW} {m : Mp} (h : MIn σ w m) (hf : M5 m = false) : Ag Try.prog HQ #[w.v] σ fun v σ' => ∃ (w' : MW) (s : Hp), v = w'.v ∧ Ay 4 [.bool] σ w'.pA w'.pn w'.pc m.pk s ∧ Ay 51 sR s w'.rA w'.rn w'.rc m.rs σ' := by
  refine IP _ _ _ _ _ _ _ _ ?_
  unfold E3
  obtain ⟨h1, h2⟩ := NI hf
  refine ⟨⟨m.pk, h.p, Dl (by show 0 + m.pk.length ≤ _; omega) ⟨m.rs, h.r, Dl (by show 0 + m.rs.length ≤ _; omega) ?_⟩⟩, ⟨m.pk, h.p, Dl (by show 0 + m.pk.length ≤ _; omega) ⟨m.rs, h.r, Dl (by show 0 + m.rs.length ≤ _; omega) ?_⟩⟩⟩
  · intro A3 l3 c3 σ4 h3 A5 l5 c5 σ6 h5
    exact Ax ⟨⟨A3, l3, c3, A5, l5, c5⟩, σ4, rfl, h3, h5⟩
  · intro A3 l3 c3 σ4 h3 A5 l5 c5 σ6 h5
    exact Ax ⟨⟨A3, l3, c3, A5, l5, c5⟩, σ4, rfl, h3, h5⟩
theorem Rg {w : MW} {m : Mp} {K : Option Addr → Nat → Nat → Option Addr → Nat → Nat → Hp → Prop} (h : MIn σ w m) (hf : M5 m = false) (hk : ∀ (w' : MW) σ', Hp.Sub σ σ' → MIn σ' w' m → K w'.pA w'.pn w'.pc w'.rA w'.rn w'.rc σ') :
    cl Try.prog (.func (.func HQ) #[] #[]) #[w.v] σ fun v σ' => ∃ A9 : Option Addr, ∃ l9 : Nat, ∃ c9 : Nat, ∃ A10 : Option Addr, ∃ l10 : Nat, ∃ c10 : Nat, (v = (.agg #[(.slice A9 l9 c9), (.slice A10 l10 c10)]) ∧ (Hp.Sub σ σ' ∧ K A9 l9 c9 A10 l10 c10 σ')) := by
  refine Bx GX (Rd h hf) ?_
  rintro v σ' ⟨w', s, rfl, h1, h2⟩
  have hs := (Ay.sub h1).trans (Ay.sub h2)
  exact ⟨_, _, _, _, _, _, rfl, hs, hk w' σ' hs ⟨(Ay.rd h1).sub (Ay.sub h2), Ay.rd h2⟩⟩
theorem G5 {A : Option Addr} {n c : Nat} {j : List Leg} (hj : RdS sJ σ A n j) (hl : j.length ≤ 4294967296) : Ag Try.prog Ht #[.slice A n c] σ fun v σ' => ∃ A' n' c', v = .slice A' n' c' ∧ Ay 60 sJ σ A' n' c' j σ' := by
  refine IS _ _ _ _ _ ?_
  unfold ET
  refine ⟨j, hj, Dl (by show 0 + j.length ≤ _; omega) ?_⟩
  intro A3 l3 c3 σ4 h3
  exact Ax ⟨A3, l3, c3, rfl, h3⟩
theorem Rx {A : Option Addr} {n c : Nat} {j : List Leg} {K : Option Addr → Nat → Nat → Hp → Prop} (hj : RdS sJ σ A n j) (hl : j.length ≤ 4294967296) (hk : ∀ A' n' c' σ', Hp.Sub σ σ' → RdS sJ σ' A' n' j → K A' n' c' σ') :
    cl Try.prog (.func (.func Ht) #[] #[]) #[.slice A n c] σ fun v σ' => ∃ A10 : Option Addr, ∃ l10 : Nat, ∃ c10 : Nat, (v = (.slice A10 l10 c10) ∧ (Hp.Sub σ σ' ∧ K A10 l10 c10 σ')) := by
  refine Bx GN (G5 hj hl) ?_
  rintro v σ' ⟨A', n', c', rfl, ho⟩
  exact ⟨_, _, _, rfl, ho.sub, hk _ _ _ _ ho.sub ho.rd⟩
end
end Go.Proofs.Ytkdjkkimngeloaa
