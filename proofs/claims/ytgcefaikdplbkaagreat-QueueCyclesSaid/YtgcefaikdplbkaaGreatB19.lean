/- Texts Ra9 Rb1: what the claims of this seat rest on; each text says what it proves. -/
import Derived.Test.YtgcefaikdplbkaaGreatB18

/- Contracts of layer 7: the visits, of the program and of the reference; equality of lists of visits. -/
namespace Go.Proofs.YtgcefaikdplbkaaGreat
open Go.RowKit

/-! ### Visits in memory -/
theorem RdS.vix {σ : Hp} {A : Option Addr} {n : Nat} {xs : List Vis} (h : RdS sV σ A n xs) {i : Nat} (hi : i < xs.length) {x : Vis} (e : xs[i] = x) {K : Nat → Nat → Prop}
    (hk : ∀ b o, σ.cell? ⟨b, o, none⟩ = some (.int .i64 x.1) → σ.cell? ⟨b, o + 1, none⟩ = some (.int .i64 x.2.1) → σ.cell? ⟨b, o + 2, none⟩ = some (.int .i64 x.2.2.1) → σ.cell? ⟨b, o + 3, none⟩ = some (.bool x.2.2.2.1) → σ.cell? ⟨b, o + 4, none⟩ = some (.int .i64 x.2.2.2.2.1) → σ.cell? ⟨b, o + 5, none⟩ = some (.int .i64 x.2.2.2.2.2) → K b o) : ix A n i 6 K := by
  subst e
  have hk' : ((i : Nat) : Int).toNat < (xs : List (TyR sV)).length := by rw [Int.toNat_natCast]; exact hi
  refine ix_of (ss := sV) h rfl (by omega) hk' fun b o hc => ?_
  exact hk b o (hc 0 (by show 0 < 6; omega)) (hc 1 (by show 1 < 6; omega)) (hc 2 (by show 2 < 6; omega)) (hc 3 (by show 3 < 6; omega)) (hc 4 (by show 4 < 6; omega)) (hc 5 (by show 5 < 6; omega))
theorem OwnSl.st1V {σ σ' τ : Hp} {A : Option Addr} {n c : Nat} {xs : List Vis} (h : OwnSl 101 sV σ A n c xs σ') (hs : Hp.Sub σ' τ) {b off i j : Nat} {v : Value} {x r : Vis} (hA : A = some ⟨b, off, none⟩) (hi : i < xs.length) (e : xs[i] = x) (hr : setR sV x j v = some r) {K : Hp → Prop}
    (hk : ∀ σ2 τ2, OwnSl 101 sV σ A n c (xs.set i r) σ2 → Hp.Sub σ2 τ2 → K τ2) : st τ b (off + i * 6 + j) v K := by
  subst e
  obtain ⟨b', off', hA', hp⟩ := OwnSl.put (ss := sV) h hs hi
  rw [hA] at hA'
  cases hA'
  obtain ⟨w1, σ2, w2, w3⟩ := hp j v r hr
  have e1 : off + (i * sV.length + j) = off + i * 6 + j := by show off + (i * 6 + j) = _; omega
  rw [e1] at w1 w3
  exact ⟨w1, hk _ _ w2 w3⟩
/-- a whole visit is stored -/
theorem OwnSl.stV {σ σ' τ : Hp} {A : Option Addr} {n c : Nat} {xs : List Vis} (h : OwnSl 101 sV σ A n c xs σ') (hs : Hp.Sub σ' τ) {i : Nat} (hi : i < xs.length) (y : Vis) {K : Hp → Prop}
    (hk : ∀ σ2 τ2, OwnSl 101 sV σ A n c (xs.set i y) σ2 → Hp.Sub σ2 τ2 → K τ2) : ix A n i 6 fun b a => st τ b a (.int .i64 y.1) fun τ1 => st τ1 b (a + 1) (.int .i64 y.2.1) fun τ2 => st τ2 b (a + 2) (.int .i64 y.2.2.1) fun τ3 => st τ3 b (a + 3) (.bool y.2.2.2.1) fun τ4 => st τ4 b (a + 4) (.int .i64 y.2.2.2.2.1) fun τ5 => st τ5 b (a + 5) (.int .i64 y.2.2.2.2.2) K := by
  obtain ⟨b, off, hA, _⟩ := OwnSl.someA (ss := sV) h (show 0 < List.length xs by omega)
  have hn : n = xs.length := h.len
  have hl : ∀ r : Vis, i < (xs.set i r).length := fun r => by rw [List.length_set]; exact hi
  have he : ∀ r : Vis, (xs.set i r)[i]'(hl r) = r := fun r => List.getElem_set_self _
  refine ix_at hA (by omega) (by omega) ?_
  simp only [Int.toNat_natCast]
  refine h.st1V hs (j := 0) (r := (y.1, xs[i].2)) hA hi rfl rfl fun σ1 τ1 h1 s1 => ?_
  refine h1.st1V s1 (j := 1) (r := (y.1, y.2.1, xs[i].2.2)) hA (hl _) (he _) rfl fun σ2 τ2 h2 s2 => ?_
  rw [List.set_set] at h2
  refine h2.st1V s2 (j := 2) (r := (y.1, y.2.1, y.2.2.1, xs[i].2.2.2)) hA (hl _) (he _) rfl fun σ3 τ3 h3 s3 => ?_
  rw [List.set_set] at h3
  refine h3.st1V s3 (j := 3) (r := (y.1, y.2.1, y.2.2.1, y.2.2.2.1, xs[i].2.2.2.2)) hA (hl _) (he _) rfl fun σ4 τ4 h4 s4 => ?_
  rw [List.set_set] at h4
  refine h4.st1V s4 (j := 4) (r := (y.1, y.2.1, y.2.2.1, y.2.2.2.1, y.2.2.2.2.1, xs[i].2.2.2.2.2)) hA (hl _) (he _) rfl fun σ5 τ5 h5 s5 => ?_
  rw [List.set_set] at h5
  refine h5.st1V s5 (j := 5) (r := y) hA (hl _) (he _) rfl fun σ6 τ6 h6 s6 => ?_
  rw [List.set_set] at h6
  exact hk _ _ h6 s6

/-! ### Insertion -/
theorem pw_app {P Q : List Vis} {x : Vis} (h : (P ++ Q).Pairwise fun a b => vle a b = true) (h1 : ∀ q ∈ Q, vle x q = true) (h2 : ∀ a ∈ P, vle a x = true) : (P ++ x :: Q).Pairwise fun a b => vle a b = true := by
  rw [List.pairwise_append] at h ⊢
  obtain ⟨a1, a2, a3⟩ := h
  refine ⟨a1, List.pairwise_cons.2 ⟨h1, a2⟩, fun a ha b hb => ?_⟩
  rcases List.mem_cons.1 hb with rfl | hb
  · exact h2 a ha
  · exact a3 a ha b hb
theorem swap_lists {P Q R : List Vis} {p x : Vis} {k : Nat} (hk : P.length + 1 = k) : (((P ++ [p]) ++ x :: (Q ++ R)).set k p).set (k - 1) x = P ++ x :: (p :: Q ++ R) := by
  subst hk
  have e1 : ((P ++ [p]) ++ x :: (Q ++ R)).set (P.length + 1) p = (P ++ [p]) ++ p :: (Q ++ R) := by
    rw [List.set_append_right _ _ (by simp)]
    simp
  rw [e1, List.append_assoc, List.set_append_right _ _ (by simp)]
  simp
theorem vle_before (a b : Vis) : (!vle b a) = true ↔ (a.left < b.left ∨ a.left = b.left ∧ (a.1 < b.1 ∨ a.1 = b.1 ∧ a.2.1 < b.2.1)) := by
  rw [Bool.not_eq_true', ← Bool.not_eq_true, vle_iff, Classical.not_not]

section
variable {σ : Hp} {w : Int} {r l : SL} {B : List BthG} {ws : Nat → SL} {G : List Grp}
def vsL (c : Int) (vs : List Vis) : List Vis := if c = 0 then vs else []
theorem vsL_len {c : Int} {vs : List Vis} : (vsL c vs).length ≤ vs.length := by
  unfold vsL
  split
  · exact Nat.le_refl _
  · exact Nat.zero_le _
/-- visits that are read, and an error -/
def VsR (σ : Hp) (c : Int) (vs : List Vis) : Value → Hp → Prop := fun v σ' => ∃ s : SL, v = .tuple #[s.v, .int .i64 c] ∧ Hp.Sub σ σ' ∧ RdS sV σ' s.A s.n (vsL c vs)
theorem VsR.err {c : Int} {vs : List Vis} (h : ¬ c = 0) : VsR σ c vs (.tuple #[.slice none 0 0, .int .i64 c]) σ := ⟨⟨none, 0, 0⟩, rfl, Hp.Sub.refl _, by rw [vsL, if_neg h]; exact (OwnSl.nil 101 sV σ).rd⟩
theorem VsR.ok {σ' : Hp} {s : SL} {vs : List Vis} (hs : Hp.Sub σ σ') (h : RdS sV σ' s.A s.n vs) : VsR σ 0 vs (.tuple #[s.v, .int .i64 0]) σ' := ⟨s, rfl, hs, by rw [vsL, if_pos rfl]; exact h⟩
theorem PlayR.visR {W : PW} {σ0 : Hp} {S : Pl} (h : PlayR W σ0 σ S) : ∃ (v : SL) (σ1 : Hp), σ W.pb = some (.cells (playC W S v) 64 (0, 0), true) ∧ OwnSl 101 sV σ1 v.A v.n v.c S.visits σ ∧ Hp.Sub σ0 σ1 := by
  obtain ⟨σ3, h1, h2⟩ := h
  obtain ⟨σ1, h3, h4⟩ := star_get (k := 0) ppieces_port (by show 0 < 8; omega) h1
  obtain ⟨σ1', h5, h6⟩ := Port.coreP.junk h4 h2
  obtain ⟨v, σ4, h7, h8⟩ := h5
  refine ⟨v, σ4, h8.sub _ _ h7.get, h8, ?_⟩
  have a1 : Hp.Sub σ0 σ1 := Port.sub (Port.star fun R hR => ppieces_port R (List.mem_of_mem_eraseIdx hR)) h3
  exact (a1.trans h6).trans (Port.blk.sub h7)

end
end Go.Proofs.YtgcefaikdplbkaaGreat

/- Contracts of layer 7: equality of groups. -/
namespace Go.Proofs.YtgcefaikdplbkaaGreat
open Go.RowKit

section
variable {σ : Hp} {w : Int} {r l : SL} {B : List BthG} {ws : Nat → SL} {G : List Grp}
end
end Go.Proofs.YtgcefaikdplbkaaGreat

