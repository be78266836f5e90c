/- Bounds of a tick of an evening as the reference plays it. No program in sight. -/
import Derived.Test.YtgcefaikdplbkaaRa2
namespace Go.Proofs.Ytgcefaikdplbkaa
open Go.RowKit

/-- what is given, and the time, are the same -/
structure Pl.Sm (S S' : Pl) : Prop where
  g : S'.G = S.G
  b : S'.B = S.B
  n : S'.now = S.now
  w : S'.walk = S.walk
theorem Pl.Sm.refl (S : Pl) : S.Sm S := ⟨rfl, rfl, rfl, rfl⟩
theorem Pl.Sm.trans {S T U : Pl} (h : S.Sm T) (h' : T.Sm U) : S.Sm U := ⟨h'.g.trans h.g, h'.b.trans h.b, h'.n.trans h.n, h'.w.trans h.w⟩
theorem Pl.Sm.on (S : Pl) (g : Int) : S.Sm (S.on g) := let ⟨a, b, c, _, _, d⟩ := S.on_same g; ⟨a, b, c, d⟩
theorem Pl.Sm.stand (S : Pl) (g : Int) : S.Sm (S.stand g) := ⟨rfl, rfl, rfl, rfl⟩
theorem Pl.Sm.unq (S : Pl) (g : Int) (b : Bool) : S.Sm (S.unq g b) := ⟨rfl, rfl, rfl, rfl⟩
theorem Pl.Sm.leave (S : Pl) (g : Int) (b : Bool) : S.Sm (S.leave g b) := by
  unfold Pl.leave
  split
  · exact ⟨rfl, rfl, rfl, rfl⟩
  · exact (Pl.Sm.unq S g false).trans (Pl.Sm.on _ g)
theorem Pl.Sm.endK (S : Pl) (k : Nat) : S.Sm (S.endK k) := ⟨rfl, rfl, rfl, rfl⟩
theorem Pl.Sm.setB (S : Pl) (r t : Int) : S.Sm (S.setB r t) := ⟨rfl, rfl, rfl, rfl⟩
theorem Pl.Sm.lineK (S : Pl) (k : Nat) : S.Sm (S.lineK k) := ⟨rfl, rfl, rfl, rfl⟩
theorem Pl.Sm.gr {S S' : Pl} (h : S.Sm S') (g : Int) : S'.gr g = S.gr g := by unfold Pl.gr; rw [h.g]
theorem Pl.Sm.bt {S S' : Pl} (h : S.Sm S') (r : Int) : S'.bt r = S.bt r := by unfold Pl.bt; rw [h.b]
theorem PSt.sm {W : PW} {σ : Hp} {S S' : Pl} {ws : Nat → SL} (h : PSt W σ S ws) (e : S.Sm S') : PSt W σ S' ws := ⟨by rw [e.g, e.b]; exact h.e⟩
theorem Pl.leave_ne {S : Pl} {g k : Int} {b : Bool} (h : k.toNat ≠ g.toNat) : (S.leave g b).gu k = S.gu k := by
  unfold Pl.leave
  split
  · show ((S.unq g true).setG g _).gu k = _
    rw [Pl.gu_setG_ne h]
    rfl
  · exact Pl.quit_ne (S := S) h
theorem Pl.Ok.off1 {S : Pl} {c : Nat} {g : Int} (h : S.Ok c) (g0 : 0 ≤ g) (g1 : g < S.G.length) (ho : S.off g = true) : (S.on g).Ok c := by
  unfold Pl.off at ho
  simp only [Bool.and_eq_true, decide_eq_true_eq] at ho
  exact h.on g0 g1 (h.free (by omega)) ((h.gs g g0 g1).w2 (by omega))
theorem Pl.Ok.come1 {S : Pl} {c : Nat} {g : Int} (h : S.Ok c) (g0 : 0 ≤ g) (g1 : g < S.G.length) : (S.come1 g).Ok c := by
  have hg := h.gs g g0 g1
  unfold Pl.come1
  split
  · rename_i ha
    unfold Pl.comeA at ha
    simp only [Bool.and_eq_true, decide_eq_true_eq] at ha
    exact h.on g0 g1 (h.free (by omega)) (hg.w2 (by omega))
  · split
    · rename_i hb
      unfold Pl.comeB at hb
      simp only [Bool.and_eq_true, decide_eq_true_eq] at hb
      exact h.stand g0 g1 (h.free (by omega)) (hg.w3 (by omega)) (hg.w2 (by omega))
    · exact h
theorem Pl.Sm.come1 (S : Pl) (g : Int) : S.Sm (S.come1 g) := by
  unfold Pl.come1
  split
  · exact Pl.Sm.on S g
  · split
    · exact Pl.Sm.stand S g
    · exact Pl.Sm.refl S
theorem Pl.Ok.quit1 {S : Pl} {c : Nat} {g : Int} (h : S.Ok c) (g0 : 0 ≤ g) (g1 : g < S.G.length) (ho : S.quits g = true) : (S.quit g).Ok (c + 1) := by
  unfold Pl.quits at ho
  simp only [Bool.and_eq_true, decide_eq_true_eq] at ho
  exact h.leave g0 g1 ho.1 fun e => by cases e

/-- who is still to be asked when a ride is filled -/
structure FlOk (S : Pl) (r : Int) (q : List Int) (c : Nat) : Prop where
  ok : S.Ok c
  nd : q.Nodup
  el : ∀ g ∈ q, 0 ≤ g ∧ g < S.G.length ∧ (S.gu g).st = 2 ∧ gt (S.gr g).wants (S.gu g).want = r
section
variable {S : Pl} {r g : Int} {q : List Int} {c : Nat}
theorem FlOk.of (h : S.Ok c) (r0 : 0 ≤ r) (r1 : r < S.B.length) : FlOk S r (S.qu r) c := ⟨h, h.qn r r0 r1, h.qs r r0 r1⟩
theorem FlOk.skip (h : FlOk S r (g :: q) c) : FlOk S r q (c + 1) := ⟨h.ok.mono (by omega), (List.nodup_cons.1 h.nd).2, fun k hk => h.el k (List.mem_cons_of_mem _ hk)⟩
theorem FlOk.leave (h : FlOk S r (g :: q) c) {b : Bool} (hb : b = true → S.bad r g = false) : FlOk (S.leave g b) r q (c + 1) := by
  obtain ⟨g0, g1, g2, g3⟩ := h.el g (List.mem_cons_self ..)
  obtain ⟨n1, n2⟩ := List.nodup_cons.1 h.nd
  refine ⟨h.ok.leave g0 g1 g2 fun e => ?_, n2, fun k hk => ?_⟩
  · have hb := hb e
    unfold Pl.bad at hb
    simp only [Bool.or_eq_false_iff, decide_eq_false_iff_not] at hb
    unfold Pl.price
    rw [g3, Int.mul_comm]
    omega
  · obtain ⟨k0, k1, k2, k3⟩ := h.el k (List.mem_cons_of_mem _ hk)
    have hne : k.toNat ≠ g.toNat := fun e => n1 (by rw [toNat_inj k0 g0] at e; rw [← e]; exact hk)
    have sm := Pl.Sm.leave S g b
    rw [Pl.leave_ne hne, sm.gr, sm.g]
    exact ⟨k0, k1, k2, k3⟩
end
theorem Pl.Ok.sizes {S : Pl} {c : Nat} (h : S.Ok c) {r : Int} (r0 : 0 ≤ r) (r1 : r < S.B.length) : ∀ k : Nat, k ≤ (S.qu r).length → 0 ≤ sumI (((S.qu r).take k).map fun g => (S.gr g).size) ∧ sumI (((S.qu r).take k).map fun g => (S.gr g).size) ≤ 40 * k
  | 0, _ => by simp [sumI]
  | k + 1, hk => by
    have h1 := h.sizes r0 r1 k (by omega)
    have hkl : k < (S.qu r).length := by omega
    obtain ⟨g0, g1, _⟩ := h.qs r r0 r1 _ (List.getElem_mem hkl)
    have hs := (h.v.gr g0 g1).2.1
    rw [List.take_succ_eq_append_getElem hkl, List.map_append, sumI_app]
    have e : sumI ([(S.qu r)[k]].map fun g => (S.gr g).size) = (gd S.G (S.qu r)[k]).size := by simp [sumI]; rfl
    rw [e]
    omega
end Go.Proofs.Ytgcefaikdplbkaa
