/- Groups without patience leave, in both models. No program in sight. -/
import Derived.Test.YtgcefaikdplbkaaQb6
namespace Go.Proofs.Ytgcefaikdplbkaa
open Go.RowKit

def Pl.quits (S : Pl) (g : Int) : Bool := decide ((S.gu g).st = 2) && decide ((S.gr g).patience < S.now - (S.gu g).since)
def Pl.quit (S : Pl) (g : Int) : Pl := S.leave g false
def Pl.leaves (S : Pl) : Pl := (ints S.G.length).foldl (fun S g => if S.quits g = true then S.quit g else S) S
theorem Pl.quit_eq (S : Pl) (g : Int) : S.quit g = (S.unq g false).on g := rfl
theorem Pl.quit_ne {S : Pl} {g k : Int} (h : k.toNat ≠ g.toNat) : (S.quit g).gu k = S.gu k := by
  rw [S.quit_eq, Pl.on_ne h]
  rfl
theorem Pl.quits_quit (S : Pl) (g k : Int) (g0 : 0 ≤ g) (k0 : 0 ≤ k) (h : k ≠ g) : (S.quit g).quits k = S.quits k := by
  obtain ⟨a1, _, a3, _, _, _⟩ := (S.unq g false).on_same g
  unfold Pl.quits Pl.gr
  rw [Pl.quit_ne (by omega), S.quit_eq, a1, a3]
  rfl
theorem Ngt.leaveK_all (N : Ngt) {r : Int} (h : r.toNat < N.rides.length) : (N.leaveK N.rides.length).bo r = N.stay1 (N.bo r) := by
  unfold Ngt.leaveK Ngt.bo
  simp [List.getD, h]
theorem Ngt.goneK_mem2 (N : Ngt) {x : Int × Int} : ∀ k : Nat, k ≤ N.rides.length → (x ∈ N.goneK k ↔ ∃ r : Nat, r < k ∧ x ∈ (N.bo r).queue ∧ N.quits x = true)
  | 0, _ => by simp [Ngt.goneK]
  | k + 1, h => by
    rw [N.goneK_succ (by omega), List.mem_append, N.goneK_mem2 k (by omega)]
    constructor
    · rintro (⟨r, h1, h2⟩ | h1)
      · exact ⟨r, by omega, h2⟩
      · exact ⟨k, by omega, List.mem_filter.1 h1⟩
    · rintro ⟨r, h1, h2, h3⟩
      by_cases e : r = k
      · subst e; exact .inr (List.mem_filter.2 ⟨h2, h3⟩)
      · exact .inl ⟨r, by omega, h2, h3⟩
section
variable {w : Int} {B : List BthG} {G : List Grp} {d e : Int} {N : Ngt} {S : Pl} {pl : Int → Int} {up : List Int} {fx : Int}
theorem Rl.goneK_nodup (h : Rl w B G d e N S pl up fx) : ∀ k : Nat, k ≤ N.rides.length → ((N.goneK k).map Prod.fst).Nodup
  | 0, _ => by simp [Ngt.goneK]
  | k + 1, hk => by
    have hr := h.nr
    rw [N.goneK_succ (by omega), List.map_append]
    refine List.nodup_append.2 ⟨h.goneK_nodup k (by omega), (h.qn k (by omega) (by omega)).sublist (List.Sublist.map _ List.filter_sublist), fun a ha b hb => ?_⟩
    obtain ⟨x, hx, rfl⟩ := List.mem_map.1 ha
    obtain ⟨y, hy, rfl⟩ := List.mem_map.1 hb
    obtain ⟨r, r1, r2, _⟩ := (N.goneK_mem2 k (by omega)).1 hx
    have hy := (List.mem_filter.1 hy).1
    have h1 := (h.qe r (by omega) (by omega) x r2).2.2.2.1
    have h2 := (h.qe k (by omega) (by omega) y hy).2.2.2.1
    intro e'
    rw [e'] at h1
    omega
/-- a list of groups leaves -/
theorem Rl.quitL (hv : Val w B G) (hd : d ≤ 1) : ∀ (P : List (Int × Int)) (N : Ngt) (S : Pl) (pl : Int → Int), Rl w B G d e N S pl [] fx → Mo G N → N.tick ≤ 5000 → (∀ x ∈ P, 0 ≤ x.1 ∧ x.1 < G.length ∧ pl x.1 = 6 ∧ x.2 = (S.gu x.1).since) → (P.map Prod.fst).Nodup →
    (∀ k, (hk : k < P.length) → ((P.take k).foldl Ngt.quit N).Dne P[k].1 ∧ (((P.take k).foldl Ngt.quit N).done P[k] false).Nxt P[k].1) ∧
    ∃ pl', Rl w B G d e (P.foldl Ngt.quit N) ((P.map Prod.fst).foldl Pl.quit S) pl' [] fx ∧ Mo G (P.foldl Ngt.quit N) ∧
      (∀ k, k ∉ P.map Prod.fst → pl' k = pl k) ∧ (∀ k ∈ P.map Prod.fst, pl' k = 4 ∨ pl' k = 2 ∨ pl' k = 1) ∧ (P.foldl Ngt.quit N).tick = N.tick
  | [], N, S, pl, h, m, _, _, _ => ⟨fun k hk => absurd hk (Nat.not_lt_zero _), pl, h, m, fun _ _ => rfl, fun k hk => (by cases hk), rfl⟩
  | (g, c) :: P, N, S, pl, h, m, ht, hL, hn => by
    obtain ⟨g0, g1, hp, hc⟩ := hL (g, c) (List.mem_cons_self ..)
    simp only at g0 g1 hp hc
    subst hc
    obtain ⟨n1, n2⟩ := List.nodup_cons.1 hn
    have hr := h.gr g g0 g1
    have h6 := hr.c6 hp
    have h1 := h.leaves hv g0 g1 hp false
    have m1 := m.done h.t0 g0 g1 (c := (S.gu g).since) false hr.w0
    have h2 := h1.both hv hd g0 g1 plu_same
    have m2 := m1.next g
    have htk : (N.quit (g, (S.gu g).since)).tick = N.tick := ((N.done (g, (S.gu g).since) false).next_rest g).2.1
    obtain ⟨q1, pl', q2, q3, q4, q5, q7⟩ := Rl.quitL hv hd P (N.quit (g, (S.gu g).since)) (S.quit g) _ h2 m2 (by rw [htk]; exact ht) (fun x hx => by
      obtain ⟨a1, a2, a3, a4⟩ := hL x (List.mem_cons_of_mem _ hx)
      have hne : x.1 ≠ g := fun e => n1 (by show g ∈ P.map Prod.fst; rw [← e]; exact List.mem_map_of_mem hx)
      exact ⟨a1, a2, by rw [plu_ne hne, plu_ne hne]; exact a3, by rw [Pl.quit_ne (by omega)]; exact a4⟩) n2
    refine ⟨fun k hk => ?_, pl', q2, q3, fun k hk => ?_, fun k hk => ?_, by rw [List.foldl_cons, q7, htk]⟩
    · cases k with
      | zero => exact ⟨h.dne_ok hv (by have := h.vlen hv m; omega) g0 g1 h6.2.2.1, h1.nxt_ok hv ht g0 g1⟩
      | succ k => exact q1 k (by simpa using hk)
    · have hk1 : k ≠ g := fun c => hk (c ▸ List.mem_cons_self ..)
      rw [q4 k fun c => hk (List.mem_cons_of_mem _ c), plu_ne hk1, plu_ne hk1]
    · rcases List.mem_cons.1 hk with hk | hk
      · have hk : k = g := hk
        subst hk
        rw [q4 k n1, plu_same]
        have := wto_in w (wn G k) ((N.done (k, (S.gu k).since) false).pa k).wish
        omega
      · exact q5 k hk

theorem qsort_sorted {xs : List (Int × Int)} (h : (xs.map Prod.fst).Nodup) : ((qsort xs).map Prod.fst).Pairwise (· < ·) := by
  have h1 : (qsort xs).Pairwise fun a b => decide (a.1 ≤ b.1) = true := sortB_sorted (le := fun a b : Int × Int => decide (a.1 ≤ b.1)) (fun a b c h1 h2 => decide_eq_true (Int.le_trans (of_decide_eq_true h1) (of_decide_eq_true h2))) (fun a b => by simp only [decide_eq_true_eq]; omega) xs
  have h2 : ((qsort xs).map Prod.fst).Nodup := ((sortB_perm _ xs).map Prod.fst).nodup_iff.2 h
  have h3 : ((qsort xs).map Prod.fst).Pairwise fun a b => a ≤ b := List.pairwise_map.2 (h1.imp fun h => of_decide_eq_true h)
  exact h3.imp₂ (fun _ _ h4 h5 => by omega) h2

theorem Rl.leave_ (h : Rl w B G 1 e N S pl [] fx) (hv : Val w B G) (m : Mo G N) (ht : N.tick ≤ 4000) (hreg : ∀ g : Int, 0 ≤ g → g < G.length → pl g ≤ 4) :
    LeaveOK N ∧ ∃ pl', Rl w B G 1 e N.leave S.leaves pl' [] fx ∧ Mo G N.leave ∧ N.leave.tick = N.tick ∧ ∀ g : Int, 0 ≤ g → g < G.length → pl' g ≤ 4 ∧ (pl' g = 0 ↔ pl g = 0) := by
  have hnr := h.nr
  have hgd : ∀ g : Int, 0 ≤ g → g < G.length → (N.pa g).g = gd G g := fun g g0 g1 => h.pg g0 g1
  have hqk : ∀ r : Int, 0 ≤ r → r < B.length → ∀ x ∈ (N.bo r).queue, N.quits x = decide ((gd G x.1).patience < N.tick - (S.gu x.1).since) := fun r r0 r1 x hx => by
    obtain ⟨a1, a2, a3, a4, a5⟩ := h.qe r r0 r1 x hx
    unfold Ngt.quits
    rw [hgd _ a1 a2, a5]
  have hnd := h.goneK_nodup N.rides.length (Nat.le_refl _)
  have hG := fun x => N.goneK_mem2 (x := x) N.rides.length (Nat.le_refl _)
  have h1 := h.take (fun g => decide ((gd G g).patience < N.tick - (S.gu g).since)) (N' := N.leaveK N.rides.length) rfl rfl rfl rfl (by
    unfold Ngt.leaveK
    simp only [List.take_length, List.drop_length, List.append_nil, List.map_map]
    apply List.map_congr_left
    intro x _
    rfl) fun r r0 r1 => by
      rw [N.leaveK_all (by omega)]
      unfold Ngt.stay1
      congr 1
      apply List.filter_congr
      intro x hx
      rw [hqk r r0 r1 x hx]
  have m1 : Mo G (N.leaveK N.rides.length) := by
    refine m.keep rfl ?_ rfl rfl rfl (Int.le_refl _)
    unfold Ngt.takesL Ngt.leaveK
    simp only [List.take_length, List.drop_length, List.append_nil, List.map_map]
    apply List.map_congr_left
    intro x _
    rfl
  have hmem : ∀ x, x ∈ N.gone ↔ x ∈ N.goneK N.rides.length := fun x => mem_sortB
  have hP : ∀ x ∈ N.gone, 0 ≤ x.1 ∧ x.1 < G.length ∧ (if pl x.1 = 2 ∧ decide ((gd G x.1).patience < N.tick - (S.gu x.1).since) = true then (6 : Int) else pl x.1) = 6 ∧ x.2 = (S.gu x.1).since := fun x hx => by
    obtain ⟨r, r1, r2, r3⟩ := (hG x).1 ((hmem x).1 hx)
    obtain ⟨a1, a2, a3, a4, a5⟩ := h.qe r (by omega) (by omega) x r2
    rw [hqk r (by omega) (by omega) x r2] at r3
    exact ⟨a1, a2, if_pos ⟨a3, r3⟩, a5⟩
  have hnd2 : (N.gone.map Prod.fst).Nodup := ((sortB_perm _ _).map Prod.fst).nodup_iff.2 hnd
  obtain ⟨q1, pl', q2, q3, q4, q5, q7⟩ := Rl.quitL hv (by omega) N.gone _ _ _ h1 m1 (show N.tick ≤ 5000 by omega) hP hnd2
  have hS : S.leaves = (N.gone.map Prod.fst).foldl Pl.quit S := by
    unfold Pl.leaves
    rw [cond_fold (c := Pl.quits) (f := Pl.quit) Pl.quits_quit _ _ (ints_nodup _) fun g hg => (ints_mem.1 hg).1]
    congr 1
    refine sorted_ext ((ints_sorted _).sublist List.filter_sublist) (qsort_sorted hnd) fun g => ?_
    rw [List.mem_filter, ints_mem, h.sg]
    have hq : ∀ (g0 : 0 ≤ g) (g1 : g < G.length), S.quits g = true ↔ pl g = 2 ∧ (gd G g).patience < N.tick - (S.gu g).since := fun g0 g1 => by
      have hr := h.gr g g0 g1
      have e1 : S.gr g = gd G g := by unfold Pl.gr; rw [h.sg]; rfl
      unfold Pl.quits
      rw [Bool.and_eq_true, decide_eq_true_eq, decide_eq_true_eq, hr.st_of (hreg g g0 g1), e1, h.tk]
    show _ ↔ g ∈ N.gone.map Prod.fst
    constructor
    · rintro ⟨⟨g0, g1⟩, hq1⟩
      obtain ⟨p1, p2⟩ := (hq g0 g1).1 hq1
      have hr := h.gr g g0 g1
      have h2 := hr.c2 p1
      have hvw := hv.want hr.w0 h2.2.2.1
      have hm := h.qc g g0 g1 p1
      refine List.mem_map.2 ⟨(g, (S.gu g).since), (hmem _).2 ((hG _).2 ⟨(gt (wn G g) (N.pa g).wish).toNat, by omega, hm, ?_⟩), rfl⟩
      rw [hqk _ hvw.1 hvw.2 _ hm]
      exact decide_eq_true p2
    · intro hm
      obtain ⟨x, hx, rfl⟩ := List.mem_map.1 hm
      obtain ⟨r, r1, r2, r3⟩ := (hG x).1 ((hmem x).1 hx)
      obtain ⟨a1, a2, a3, a4, a5⟩ := h.qe r (by omega) (by omega) x r2
      rw [hqk r (by omega) (by omega) x r2] at r3
      exact ⟨⟨a1, a2⟩, (hq a1 a2).2 ⟨a3, of_decide_eq_true r3⟩⟩
  refine ⟨⟨fun i => by have := h.qlen i; have := hv.n; omega, fun i s hs => ?_, ⟨h.t0, by omega⟩, hnd, q1⟩, pl', ?_, q3, q7, fun g g0 g1 => ?_⟩
  · by_cases hi : i.toNat < N.rides.length
    · have e0 : N.bo i = N.bo (i.toNat : Int) := rfl
      rw [e0] at hs
      obtain ⟨a1, a2, a3, a4, a5⟩ := h.qe i.toNat (by omega) (by omega) s hs
      have := (h.gr _ a1 a2).c2 a3
      have hnp := h.np
      exact ⟨a1, by omega, by omega, by omega⟩
    · have : N.bo i = Bth.d := by unfold Ngt.bo; simp [List.getD, hi]
      rw [this] at hs
      cases hs
  · rw [hS]
    exact q2
  · by_cases c : g ∈ N.gone.map Prod.fst
    · obtain ⟨x, hx, rfl⟩ := List.mem_map.1 c
      obtain ⟨r, r1, r2, r3⟩ := (hG x).1 ((hmem x).1 hx)
      have := (h.qe r (by omega) (by omega) x r2).2.2.1
      rcases q5 _ c with h5 | h5 | h5 <;> omega
    · rw [q4 g c]
      have hre := hreg g g0 g1
      by_cases c2 : pl g = 2 ∧ decide ((gd G g).patience < N.tick - (S.gu g).since) = true
      · exfalso
        have hr := h.gr g g0 g1
        have h2 := hr.c2 c2.1
        have hvw := hv.want hr.w0 h2.2.2.1
        have hm := h.qc g g0 g1 c2.1
        refine c (List.mem_map.2 ⟨(g, (S.gu g).since), (hmem _).2 ((hG _).2 ⟨(gt (wn G g) (N.pa g).wish).toNat, by omega, hm, ?_⟩), rfl⟩)
        rw [hqk _ hvw.1 hvw.2 _ hm]
        exact c2.2
      · rw [if_neg c2]
        exact ⟨hre, Iff.rfl⟩
end
end Go.Proofs.Ytgcefaikdplbkaa
