/- Trimmed by wip/trim.py to what this claim rests on. -/
import Derived.Test.YtkdjkkimngeloaaXVd4
namespace Go.Proofs.Ytkdjkkimngeloaa
open Go.RowKit
def cE (m : Mp) (ls : List Lry) (t g : Int) : Int := if eT m ls t = 0 then (if 0 ≤ g ∧ g ≤ 100 then 0 else 1) else eT m ls t
theorem Tl {m : Mp} {l : Lry} (hm : MpS m) (hl : AZ m l) : eC m [l] = 0 := by
  unfold eC
  rw [if_pos (Mp.okB_iff.2 hm), if_pos (by simp [Jy.2 hl])]
section
variable {σ : Hp}
set_option maxRecDepth 20000 in
theorem NN {A : Option Addr} {n c : Nat} {js : List (List Leg)} (hj : F3 σ A n js) (hl : js.length ≤ 4294967296) (hjl : ∀ j ∈ js, j.length ≤ 4294967296) : Af Try.prog ER #[.slice A n c] σ fun v σ' => ∃ A' n' c', v = .slice A' n' c' ∧ Hp.Sub σ σ' ∧ F3 σ' A' n' js := by
  refine GX _ _ _ _ _ ?_
  unfold C9
  have hn := hj.len
  refine Ag fun J3 h3 => ?_
  refine ⟨fun q (xs : List (Option Addr × Nat × Nat)) i τ => ∃ k : Nat, q = js.length - k ∧ i = k ∧ k ≤ js.length ∧ Hp.Sub σ τ ∧ xs.length = k ∧ ∀ z (h1 : z < xs.length) (h2 : z < js.length), RdS sJ τ xs[z].1 xs[z].2.1 js[z], ⟨js.length, [], σ, Ap.nil .., 0, rfl, rfl, Nat.zero_le _, Hp.Sub.refl _, rfl, fun z h1 => absurd h1 (Nat.not_lt_zero _)⟩, ?_⟩
  rintro q xs i τ ⟨k, rfl, rfl, hk, hs, hxl, hx⟩ _
  refine Bd (fun hlt => ?_) (fun hge => ?_)
  · have hkl : k < js.length := by omega
    refine Qv (hj.up hs) (by omega) (by simpa using hkl) fun A1 n1 c1 hjk => ?_
    simp only [Int.toNat_natCast] at hjk
    have hjk2 := hjl _ (List.getElem_mem hkl)
    refine ⟨js[k], hjk, Bh (by show 0 + js[k].length ≤ _; omega) ?_⟩
    intro A2 n2 c2 σ20 ho b21 nb
    have hB : Blk b21 (.cells #[.slice A2 n2 c2] 32 (0, 0)) σ20 (σ20.ins b21 (.cells #[.slice A2 n2 c2] 32 (0, 0))) := ⟨nb, rfl⟩
    generalize σ20.ins b21 _ = σ22 at hB ⊢
    have hrd : RdS [.slc] σ22 (some ⟨b21, 0, none⟩) 1 [((A2, n2, c2) : Option Addr × Nat × Nat)] := by
      refine ⟨rfl, .inr ⟨b21, 0, _, _, _, _, rfl, hB.get, fun i j hi hj => ?_⟩⟩
      have e1 : i = 0 := by
        have : i < 1 := hi
        omega
      have e2 : j = 0 := by
        have : j < 1 := hj
        omega
      subst e1 e2
      rfl
    refine ⟨([((A2, n2, c2) : Option Addr × Nat × Nat)] : List (Option Addr × Nat × Nat)), hrd, Bh (by show List.length xs + 1 ≤ _; omega) (AT (by omega) (BP _ (by omega) ⟨k + 1, rfl, rfl, by omega, hs.trans ((Ap.sub ho).trans hB.sub), by simp [hxl], fun z h1 h2 => ?_⟩))⟩
    by_cases ez : z < xs.length
    · have := (hx z ez h2).sub ((Ap.sub ho).trans hB.sub)
      rw [List.getElem_append_left ez]
      exact this
    · have e1 : z = k := by
        have : z < xs.length + 1 := by simpa using h1
        omega
      subst e1
      have e2 : (xs ++ [((A2, n2, c2) : Option Addr × Nat × Nat)])[z]'h1 = (A2, n2, c2) := by
        rw [List.getElem_append_right (by omega)]
        simp [hxl]
      rw [e2]
      exact (Ap.rd ho).sub hB.sub
  · have hkp : k = js.length := by omega
    subst hkp
    rw [h3]
    intro _ A5 l5 c5 σ6 ho
    exact AC ⟨_, _, _, rfl, hs.trans (Ap.sub ho), xs, Ap.rd ho, hxl, fun z h1 h2 => (hx z h1 h2).sub (Ap.sub ho)⟩
end
end Go.Proofs.Ytkdjkkimngeloaa
