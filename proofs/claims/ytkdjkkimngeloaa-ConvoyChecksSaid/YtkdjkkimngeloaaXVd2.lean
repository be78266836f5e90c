/- Trimmed by wip/trim.py to what this claim rests on. -/
import Derived.Test.YtkdjkkimngeloaaXVd1
import Derived.Test.YtkdjkkimngeloaaXW1
namespace Go.Proofs.Ytkdjkkimngeloaa
open Go.RowKit
def exJ : List Leg := [(0, 0), (1, 15)]
section
variable {σ : Hp}
set_option maxRecDepth 100000 in
theorem P0 : Ad Try.prog Gj #[] σ fun v σ' => v = .bool true ∧ σ' = σ := by
  refine HI _ _ ?_
  unfold D2
  have ex : Ad Try.prog IB #[] σ fun v σ' => ∃ w : MW, v = .tuple #[w.v, exL.v] ∧ Hp.Sub σ σ' ∧ MIn σ' w exM := by
    refine GN _ _ ?_
    intro A1 l1 c1 σ2 h1 A3 l3 c3 σ4 h3
    exact Au ⟨⟨A1, l1, c1, A3, l3, c3⟩, rfl, (Av.sub h1).trans (Av.sub h3), (Av.rd h1).sub (Av.sub h3), Av.rd h3⟩
  refine BU Fp ex ?_
  rintro v σ2 ⟨w, rfl, hs2, hin⟩
  refine ⟨_, _, _, _, _, _, _, _, _, _, _, _, rfl, ?_⟩
  refine BU Fr (O9 (l := exL) (t := 2) hin (show 4 ≤ _ by decide) (show 4 ≤ _ by decide)) ?_
  rintro v σ12 (⟨e, _⟩ | ⟨_, (⟨hn, _⟩ | ⟨A, n, c, js, a, rfl, ho, hb⟩)⟩)
  · exact absurd QK e
  · exact absurd hn fun hn => by
      obtain ⟨s, h1, h2, h3, _⟩ := Nd
      exact hn (s.tn, s.dv) _ h2 ⟨_, s, h1, rfl, rfl⟩
  have hjs : (a, js) = (25, exJ) := hb.uniq Nd
  have hjs : js = exJ := congrArg Prod.snd hjs
  subst hjs
  have hs12 : Hp.Sub σ2 σ12 := ho.sub
  have hrd : RdS sJ σ12 A n exJ := ho.rd
  have hn2 : n = 2 := hrd.1
  subst hn2
  refine ⟨_, _, _, _, rfl, ?_⟩
  refine BU E5 (M1 (l := exL) (t := 2) (hin.up hs12) (show 4 ≤ _ by decide) (show 4 ≤ _ by decide)) ?_
  rintro v σ16 ⟨rfl, (⟨e, _⟩ | ⟨_, (⟨hn, _⟩ | ⟨h, rfl, hh⟩)⟩)⟩
  · exact absurd QK e
  · exact absurd hn Pz
  obtain rfl := Qg hh
  refine ⟨_, _, rfl, ?_⟩
  refine BX (fun _ => ?_) (fun h => absurd rfl h)
  refine BX (fun _ => ?_) (fun h => absurd rfl h)
  refine BX (fun _ => ?_) (fun h => absurd rfl h)
  refine BX (fun _ => ?_) (fun h => absurd rfl h)
  refine PV hrd (by decide) (by decide) fun x hx => ?_
  have hx : ((1 : Int), (15 : Int)) = x := hx
  subst hx
  exact Bl (hs2.trans hs12) ⟨rfl, rfl⟩
theorem NC {K : Bool → Hp → Prop} (h : K true σ) : cl Try.prog (.func (.func Gj) #[] #[]) #[] σ fun v σ' => ∃ t : Bool, (v = .bool t ∧ K t σ') :=
  clB Gg P0 h
def Ow (m : Mp) : Bool := decide (20 < m.pk.length) || decide (40 < m.rs.length)
theorem NF {m : Mp} (h : Ow m = false) : m.pk.length ≤ 20 ∧ m.rs.length ≤ 40 := by
  unfold Ow at h
  simp only [Bool.or_eq_false_iff, decide_eq_false_iff_not] at h
  omega
theorem RD {w : MW} {m : Mp} (h : MIn σ w m) : Ad Try.prog Lo #[w.v] σ fun v σ' => v = .bool (Ow m) ∧ σ' = σ := by
  refine Jf _ _ _ _ _ _ _ _ ?_
  unfold FL Ow
  have hpn := h.pn
  have hrn := h.rn
  refine BX (fun e => Au ⟨?_, rfl⟩) (fun e => Au ⟨?_, rfl⟩)
  · rw [decide_eq_true (show 20 < m.pk.length by omega)]
    rfl
  · rw [decide_eq_false (show ¬ 20 < m.pk.length by omega), Bool.false_or]
    congr 1
    rw [decide_eq_decide]
    omega
theorem Q6 {w : MW} {m : Mp} (h : MIn σ w m) (hf : Ow m = false) : Ad Try.prog Hm #[w.v] σ fun v σ' => ∃ (w' : MW) (s : Hp), v = w'.v ∧ Av 4 [.bool] σ w'.pA w'.pn w'.pc m.pk s ∧ Av 51 sR s w'.rA w'.rn w'.rc m.rs σ' := by
  refine IA _ _ _ _ _ _ _ _ ?_
  unfold ED
  obtain ⟨h1, h2⟩ := NF hf
  refine ⟨⟨m.pk, h.p, Da (by show 0 + m.pk.length ≤ _; omega) ⟨m.rs, h.r, Da (by show 0 + m.rs.length ≤ _; omega) ?_⟩⟩, ⟨m.pk, h.p, Da (by show 0 + m.pk.length ≤ _; omega) ⟨m.rs, h.r, Da (by show 0 + m.rs.length ≤ _; omega) ?_⟩⟩⟩
  · intro A3 l3 c3 σ4 h3 A5 l5 c5 σ6 h5
    exact Au ⟨⟨A3, l3, c3, A5, l5, c5⟩, σ4, rfl, h3, h5⟩
  · intro A3 l3 c3 σ4 h3 A5 l5 c5 σ6 h5
    exact Au ⟨⟨A3, l3, c3, A5, l5, c5⟩, σ4, rfl, h3, h5⟩
theorem OJ {w : MW} {m : Mp} {K : Option Addr → Nat → Nat → Option Addr → Nat → Nat → Hp → Prop} (h : MIn σ w m) (hf : Ow m = false) (hk : ∀ (w' : MW) σ', Hp.Sub σ σ' → MIn σ' w' m → K w'.pA w'.pn w'.pc w'.rA w'.rn w'.rc σ') :
    cl Try.prog (.func (.func Hm) #[] #[]) #[w.v] σ fun v σ' => ∃ A9 : Option Addr, ∃ l9 : Nat, ∃ c9 : Nat, ∃ A10 : Option Addr, ∃ l10 : Nat, ∃ c10 : Nat, (v = (.agg #[(.slice A9 l9 c9), (.slice A10 l10 c10)]) ∧ (Hp.Sub σ σ' ∧ K A9 l9 c9 A10 l10 c10 σ')) := by
  refine BU GG (Q6 h hf) ?_
  rintro v σ' ⟨w', s, rfl, h1, h2⟩
  have hs := (Av.sub h1).trans (Av.sub h2)
  exact ⟨_, _, _, _, _, _, rfl, hs, hk w' σ' hs ⟨(Av.rd h1).sub (Av.sub h2), Av.rd h2⟩⟩
theorem HH {A : Option Addr} {n c : Nat} {j : List Leg} (hj : RdS sJ σ A n j) (hl : j.length ≤ 4294967296) : Ad Try.prog Ko #[.slice A n c] σ fun v σ' => ∃ A' n' c', v = .slice A' n' c' ∧ Av 60 sJ σ A' n' c' j σ' := by
  refine Ix _ _ _ _ _ ?_
  unfold E3
  refine ⟨j, hj, Da (by show 0 + j.length ≤ _; omega) ?_⟩
  intro A3 l3 c3 σ4 h3
  exact Au ⟨A3, l3, c3, rfl, h3⟩
end
end Go.Proofs.Ytkdjkkimngeloaa
