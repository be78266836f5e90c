/- Trimmed by wip/trim.py to what this claim rests on. -/
import Derived.Test.YtecodlefcmjihaaGreatWB18
namespace Go.Proofs.YtecodlefcmjihaaGreat
open Go.RowKit
theorem RdS.vix {σ : Hp} {A : Option Addr} {n : Nat} {xs : List Vis} (h : RdS sV σ A n xs) {i : Nat} (hi : i < xs.length) {x : Vis} (e : xs[i] = x) {K : Nat → Nat → Prop}
    (hk : ∀ b o, σ.cell? ⟨b, o, none⟩ = some (.int .i64 x.1) → σ.cell? ⟨b, o + 1, none⟩ = some (.int .i64 x.2.1) → σ.cell? ⟨b, o + 2, none⟩ = some (.int .i64 x.2.2.1) → σ.cell? ⟨b, o + 3, none⟩ = some (.bool x.2.2.2.1) → σ.cell? ⟨b, o + 4, none⟩ = some (.int .i64 x.2.2.2.2.1) → σ.cell? ⟨b, o + 5, none⟩ = some (.int .i64 x.2.2.2.2.2) → K b o) : ix A n i 6 K := by
  subst e
  have hk' : ((i : Nat) : Int).toNat < (xs : List (TyR sV)).length := by rw [Int.toNat_natCast]; exact hi
  refine NS (ss := sV) h rfl (by omega) hk' fun b o hc => ?_
  exact hk b o (hc 0 (by show 0 < 6; omega)) (hc 1 (by show 1 < 6; omega)) (hc 2 (by show 2 < 6; omega)) (hc 3 (by show 3 < 6; omega)) (hc 4 (by show 4 < 6; omega)) (hc 5 (by show 5 < 6; omega))
section
variable {σ : Hp} {w : Int} {r l : SL} {B : List BthG} {ws : Nat → SL} {G : List Grp}
def vsL (c : Int) (vs : List Vis) : List Vis := if c = 0 then vs else []
def VsR (σ : Hp) (c : Int) (vs : List Vis) : Value → Hp → Prop := fun v σ' => ∃ s : SL, v = .tuple #[s.v, .int .i64 c] ∧ Hp.Sub σ σ' ∧ RdS sV σ' s.A s.n (vsL c vs)
theorem VsR.err {c : Int} {vs : List Vis} (h : ¬ c = 0) : VsR σ c vs (.tuple #[.slice none 0 0, .int .i64 c]) σ := ⟨⟨none, 0, 0⟩, rfl, Hp.Sub.refl _, by rw [vsL, if_neg h]; exact (An.nil 47 sV σ).rd⟩
theorem VsR.ok {σ' : Hp} {s : SL} {vs : List Vis} (hs : Hp.Sub σ σ') (h : RdS sV σ' s.A s.n vs) : VsR σ 0 vs (.tuple #[s.v, .int .i64 0]) σ' := ⟨s, rfl, hs, by rw [vsL, if_pos rfl]; exact h⟩
theorem Xo (hr : EvR σ r B l ws G) : Al Tryz.prog Lv #[.agg #[r.v, .int .i64 w], l.v] σ (VsR σ (L4 w B G) (Ngt.played w B G).visits) := by
  refine Nm _ _ _ _ _ _ _ _ _ ?_
  unfold HG
  refine clI CU (Pm hr) (El (fun hc => ?_) (fun hc => ?_))
  · exact Az (VsR.err (by simpa using hc))
  · have hc : L4 w B G = 0 := by simpa using hc
    have hv := K5 hc
    rw [hc]
    have hpl := Kq hr hv
    generalize Ngt.played w B G = N at *
    refine AM Dv hpl ?_
    rintro _ τ ⟨W, σ1, rfl, hs, hS, ht⟩
    obtain ⟨v, hb, hrd⟩ := ht.nblk
    exact ⟨_, rfl, AD (Bi hb rfl (Az (VsR.ok (s := v) (hs.trans ht.sub) hrd)))⟩
end
end Go.Proofs.YtecodlefcmjihaaGreat
namespace Go.Proofs.YtecodlefcmjihaaGreat
open Go.RowKit
section
variable {σ : Hp} {w : Int} {r l : SL} {B : List BthG} {ws : Nat → SL} {G : List Grp}
end
end Go.Proofs.YtecodlefcmjihaaGreat
