/- Trimmed by wip/trim.py to what this claim rests on. -/
import Derived.Test.YtkdjkkimngeloaaXVb18
import Derived.Test.YtkdjkkimngeloaaXVe1
namespace Go.Proofs.Ytkdjkkimngeloaa
open Go.RowKit
def exM : Mp := ⟨[false, true, false, false], [(0, 1, 10, 40, 90), (1, 2, 10, 30, 90), (0, 2, 40, 50, 90), (2, 3, 5, 50, 20)]⟩
def exL : Lry := ⟨25, 20, 0, 0, 15, 5⟩
theorem Ky : MpS exM := Mp.okB_iff.1 (by decide)
theorem Ht : AZ exM exL := Jy.1 (by decide)
theorem Si : eT exM [exL] 2 = 0 := by decide
instance : DecidableEq Wy := fun a b => by
  obtain ⟨a1, a2, a3, a4, a5⟩ := a
  obtain ⟨b1, b2, b3, b4, b5⟩ := b
  exact decidable_of_iff ((a1, a2, a3, a4, a5) = (b1, b2, b3, b4, b5)) (by simp)
theorem Sk : wys exM exL (0, 0) = [⟨0, 0, 1, 10, 10⟩] := by decide
theorem Sl : wys exM exL (1, 10) = [⟨0, 5, 0, 10, 15⟩, ⟨1, 5, 2, 10, 15⟩] := by decide
theorem OB : Bst exM exL 2 (25, [(0, 0), (1, 15)]) := by
  have hm := Ky.ok
  have hp : Pth exM exL (0, 0) [⟨0, 0, 1, 10, 10⟩, ⟨1, 5, 2, 10, 15⟩] (2, 10) := ⟨by rw [Sk]; simp, by show _ ∈ wys exM exL (1, 10); rw [Sl]; simp, rfl⟩
  refine ⟨_, L1 Ht (s := bgn exL) hp, rfl, rfl, fun j' s' h1 h2 => ?_⟩
  obtain ⟨ws, k1, k2, k3⟩ := LG Ht h1
  have k1 : Pth exM exL (0, 0) ws (s'.tn, s'.dv) := k1
  have k2 : j' = lgs 0 ws := k2
  have k3 : s'.sn = 0 + (cs ws).1 := k3
  have e1 : lgs 0 [⟨0, 0, 1, 10, 10⟩, ⟨1, 5, 2, 10, 15⟩] = [(0, 0), (1, 15)] := rfl
  match ws, k1 with
  | [], k1 =>
    have : (0 : Int) = s'.tn := congrArg Prod.fst k1
    omega
  | w :: ws, ⟨hw, k1⟩ =>
    rw [Sk, List.mem_singleton] at hw
    subst hw
    have k1 : Pth exM exL (1, 10) ws (s'.tn, s'.dv) := k1
    match ws, k1 with
    | [], k1 =>
      have : (1 : Int) = s'.tn := congrArg Prod.fst k1
      omega
    | w2 :: ws, ⟨hw, k1⟩ =>
      rw [Sl] at hw
      have hw2 : w2 = ⟨0, 5, 0, 10, 15⟩ ∨ w2 = ⟨1, 5, 2, 10, 15⟩ := by simpa using hw
      have c0 := Iy hm Ht k1
      have e2 : (cs (⟨0, 0, 1, 10, 10⟩ :: w2 :: ws)).1 = (cs ws).1 + w2.tk + 10 := rfl
      rw [e2] at k3
      rcases c0 with ⟨rfl, c0⟩ | ⟨_, c0⟩
      · rcases hw2 with rfl | rfl
        · have : (0 : Int) = s'.tn := congrArg Prod.fst k1
          omega
        · left
          rw [k2, k3]
          rfl
      · right
        left
        have : w2.tk = 15 := by rcases hw2 with rfl | rfl <;> rfl
        show (25 : Int) < s'.sn
        omega
theorem Rd : wys exM (exL.up 30) (0, 0) = [⟨0, 0, 1, 10, 10⟩] ∧ wys exM (exL.up 30) (1, 10) = [⟨0, 5, 0, 10, 15⟩, ⟨1, 5, 2, 10, 15⟩] := by decide
theorem Tn : ¬ Non exM (exL.up 30) 2 := fun hn => by
  have hl : AZ exM (exL.up 30) := KG Ky Ht (by decide)
  refine hn (2, 10) _ rfl ((IP hl).2 ⟨[⟨0, 0, 1, 10, 10⟩, ⟨1, 5, 2, 10, 15⟩], ⟨?_, ?_, rfl⟩, rfl⟩)
  · show _ ∈ wys exM (exL.up 30) (0, 0)
    rw [Rd.1]; simp
  · show _ ∈ wys exM (exL.up 30) (1, 10)
    rw [Rd.2]; simp
theorem Ew {m : Mp} {l : Lry} {t : Int} (hl : AZ m l) (S : List Plc) (h0 : (l.fr, 0) ∈ S) (h1 : ∀ p ∈ S, ∀ w ∈ wys m l p, w.to ∈ S) (h2 : ∀ p ∈ S, p.1 ≠ t) : Non m l t := fun p c hp hrc =>
  h2 p (Rc.ind (Q := fun p _ => p ∈ S) hl h0 (fun p c w _ hq hw => h1 p hq w hw) hrc) hp
theorem Td : Non exM (exL.up 40) 2 := Ew (KG Ky Ht (by decide)) [(0, 0), (1, 10), (0, 10)] (by decide) (by decide) (by decide)
theorem Sf : Non exM (exL.up 50) 2 := Ew (KG Ky Ht (by decide)) [(0, 0)] (by decide) (by decide) (by decide)
theorem Rw : Non exM (exL.up 1000) 2 := Ew (KG Ky Ht (by decide)) [(0, 0)] (by decide) (by decide) (by decide)
theorem Se {h : Int} (hh : HgR exM exL 2 h) : h = 30 := by
  obtain ⟨h1, h2, h3⟩ := hh
  have h1 : h ∈ ([1000, 40, 30, 50, 50] : List Int) := h1
  simp only [List.mem_cons, List.not_mem_nil, or_false] at h1
  rcases h1 with rfl | rfl | rfl | rfl | rfl
  · exact absurd Rw h2
  · exact absurd Td h2
  · rfl
  · exact absurd Sf h2
  · exact absurd Sf h2
theorem Rf : ¬ HgN exM exL 2 := fun h => Tn (h 30 (by decide))
end Go.Proofs.Ytkdjkkimngeloaa
