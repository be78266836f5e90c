/- Groups come, in both models. No program in sight. -/
import Derived.Test.YtgcefaikdplbkaaQb5
namespace Go.Proofs.Ytgcefaikdplbkaa
open Go.RowKit

def Pl.comeA (S : Pl) (g : Int) : Bool := decide ((S.gu g).st = 0) && decide ((S.gr g).came = S.now)
def Pl.comeB (S : Pl) (g : Int) : Bool := decide ((S.gu g).st = 1) && decide (S.now - (S.gu g).since = S.walk)
def Pl.come1 (S : Pl) (g : Int) : Pl := if S.comeA g = true then S.on g else if S.comeB g = true then S.stand g else S
def Pl.come (S : Pl) : Pl := (ints S.G.length).foldl Pl.come1 S

theorem Pl.stand_ne {S : Pl} {g k : Int} (h : k.toNat ≠ g.toNat) : (S.stand g).gu k = S.gu k := by
  show (S.setG g _).gu k = _
  exact Pl.gu_setG_ne h
theorem Pl.comeA_on (S : Pl) (g k : Int) (h : k.toNat ≠ g.toNat) : (S.on g).comeA k = S.comeA k ∧ (S.on g).comeB k = S.comeB k := by
  obtain ⟨a1, _, a3, _, _, a6⟩ := S.on_same g
  unfold Pl.comeA Pl.comeB Pl.gr
  rw [Pl.on_ne h, a1, a3, a6]
  exact ⟨rfl, rfl⟩
theorem Pl.comeA_stand (S : Pl) (g k : Int) (h : k.toNat ≠ g.toNat) : (S.stand g).comeA k = S.comeA k ∧ (S.stand g).comeB k = S.comeB k := by
  unfold Pl.comeA Pl.comeB
  rw [Pl.stand_ne h]
  exact ⟨rfl, rfl⟩
theorem Pl.on_stand (S : Pl) {g k : Int} (h : k.toNat ≠ g.toNat) (hw : S.walk ≠ 0) : (S.stand g).on k = (S.on k).stand g := by
  have e1 : (S.stand g).gu k = S.gu k := Pl.stand_ne h
  have e2 : (S.on k).gu g = S.gu g := Pl.on_ne fun e => h e.symm
  unfold Pl.on
  rw [e1]
  have e3 : (S.stand g).gr k = S.gr k := rfl
  have e4 : (S.stand g).walk = S.walk := rfl
  rw [e3, e4, if_neg hw, if_neg hw]
  by_cases c : ((S.gr k).wants.length : Int) ≤ (S.gu k).want + 1
  · rw [if_pos c, if_pos c]
    have e5 : ((S.setG k { S.gu k with want := (S.gu k).want + 1, since := S.now, st := 4 }).setH k S.now).gu g = S.gu g := Pl.gu_setG_ne fun e => h e.symm
    unfold Pl.stand
    rw [e5]
    unfold Pl.setG Pl.setH Pl.setQ
    simp only [Pl.mk.injEq, and_true, true_and]
    exact ⟨List.set_comm _ _ (fun e => h e.symm), rfl⟩
  · rw [if_neg c, if_neg c]
    have e5 : (S.setG k { S.gu k with want := (S.gu k).want + 1, since := S.now, st := 1 }).gu g = S.gu g := Pl.gu_setG_ne fun e => h e.symm
    unfold Pl.stand
    rw [e5]
    unfold Pl.setG Pl.setQ
    simp only [Pl.mk.injEq, and_true, true_and]
    exact ⟨List.set_comm _ _ (fun e => h e.symm), rfl⟩
theorem Pl.on_stands (g : Int) : ∀ (L : List Int) (S : Pl), (∀ k ∈ L, k.toNat ≠ g.toNat) → S.walk ≠ 0 → L.foldl Pl.on (S.stand g) = (L.foldl Pl.on S).stand g
  | [], _, _, _ => rfl
  | k :: L, S, h, hw => by
    rw [List.foldl_cons, List.foldl_cons, Pl.on_stand S (h k (List.mem_cons_self ..)) hw, Pl.on_stands g L (S.on k) (fun j hj => h j (List.mem_cons_of_mem _ hj)) (by rw [(S.on_same k).2.2.2.2.2]; exact hw)]
theorem Pl.come_fold : ∀ (L : List Int) (S : Pl), L.Nodup → (∀ g ∈ L, 0 ≤ g) → (S.walk = 0 → ∀ g ∈ L, S.comeB g = false) → L.foldl Pl.come1 S = (L.filter S.comeB).foldl Pl.stand ((L.filter S.comeA).foldl Pl.on S)
  | [], _, _, _, _ => rfl
  | g :: L, S, hn, h0, hw => by
    obtain ⟨n1, n2⟩ := List.nodup_cons.1 hn
    have h0' : ∀ k ∈ L, 0 ≤ k := fun k hk => h0 k (List.mem_cons_of_mem _ hk)
    have hne : ∀ k ∈ L, k.toNat ≠ g.toNat := fun k hk e => n1 (by
      have := h0' k hk
      have := h0 g (List.mem_cons_self ..)
      rw [show g = k by omega]
      exact hk)
    have hAB : S.comeA g = true → S.comeB g = false := fun h => by
      unfold Pl.comeA at h
      unfold Pl.comeB
      rw [Bool.and_eq_true, decide_eq_true_eq] at h
      rw [decide_eq_false (by omega), Bool.false_and]
    rw [List.foldl_cons, List.filter_cons, List.filter_cons]
    by_cases hA : S.comeA g = true
    · have e1 : S.come1 g = S.on g := if_pos hA
      rw [e1, if_pos hA, if_neg (by rw [hAB hA]; simp), Pl.come_fold L (S.on g) n2 h0' fun h k hk => by
        rw [(S.comeA_on g k (hne k hk)).2]
        exact hw (by rw [← (S.on_same g).2.2.2.2.2]; exact h) k (List.mem_cons_of_mem _ hk)]
      rw [List.foldl_cons]
      have f1 : L.filter (S.on g).comeB = L.filter S.comeB := List.filter_congr fun k hk => (S.comeA_on g k (hne k hk)).2
      have f2 : L.filter (S.on g).comeA = L.filter S.comeA := List.filter_congr fun k hk => (S.comeA_on g k (hne k hk)).1
      rw [f1, f2]
    · rw [if_neg hA]
      by_cases hB : S.comeB g = true
      · have e1 : S.come1 g = S.stand g := by unfold Pl.come1; rw [if_neg hA, if_pos hB]
        have hw0 : S.walk ≠ 0 := fun h => by rw [hw h g (List.mem_cons_self ..)] at hB; cases hB
        rw [e1, if_pos hB, Pl.come_fold L (S.stand g) n2 h0' fun h => absurd h hw0, List.foldl_cons]
        have f1 : L.filter (S.stand g).comeB = L.filter S.comeB := List.filter_congr fun k hk => (S.comeA_stand g k (hne k hk)).2
        have f2 : L.filter (S.stand g).comeA = L.filter S.comeA := List.filter_congr fun k hk => (S.comeA_stand g k (hne k hk)).1
        rw [f1, f2, Pl.on_stands g _ S (fun k hk => hne k (List.mem_filter.1 hk).1) hw0]
      · have e1 : S.come1 g = S := by unfold Pl.come1; rw [if_neg hA, if_neg hB]
        rw [e1, if_neg hB, Pl.come_fold L S n2 h0' fun h k hk => hw h k (List.mem_cons_of_mem _ hk)]

theorem ints_succ (n : Nat) : ints (n + 1) = ints n ++ [(n : Int)] := by
  unfold ints
  rw [List.range_succ, List.map_append]
  rfl
theorem ints_split {k : Nat} : ∀ n : Nat, k < n → ∃ Y, ints n = ints k ++ (k : Int) :: Y
  | 0, h => absurd h (Nat.not_lt_zero _)
  | n + 1, h => by
    by_cases c : k = n
    · subst c; exact ⟨[], ints_succ k⟩
    · obtain ⟨Y, hY⟩ := ints_split (k := k) n (by omega)
      exact ⟨Y ++ [(n : Int)], by rw [ints_succ, hY]; simp⟩
theorem split_at {L X Y : List Int} {a : Int} (h : L = X ++ a :: Y) : L.take X.length = X ∧ ∃ hk : X.length < L.length, L[X.length] = a := by
  subst h
  exact ⟨by simp, by simp, by simp⟩
theorem filter_split {n k : Nat} {p : Int → Bool} (h : k < n) (hp : p k = true) : ((ints n).filter p).take ((ints k).filter p).length = (ints k).filter p ∧ ∃ hk : ((ints k).filter p).length < ((ints n).filter p).length, ((ints n).filter p)[((ints k).filter p).length] = k := by
  obtain ⟨Y, hY⟩ := ints_split n h
  refine split_at (Y := Y.filter p) ?_
  rw [hY, List.filter_append, List.filter_cons, if_pos hp]
theorem Ngt.setP_pa_ne {N : Ngt} {g k : Int} {p : Pty} (h : k.toNat ≠ g.toNat) : (N.setP g p).pa k = N.pa k := by
  unfold Ngt.pa Ngt.setP
  simp only [List.getD, List.getElem?_set]
  rw [if_neg fun e => h e.symm]
theorem Ngt.arrive_pa_ne {N : Ngt} {g k : Int} (h : k.toNat ≠ g.toNat) : (N.arrive g).pa k = N.pa k := by
  unfold Ngt.arrive
  exact Ngt.setP_pa_ne h
theorem Ngt.next_pa_ne {N : Ngt} {g k : Int} (h : k.toNat ≠ g.toNat) : (N.next g).pa k = N.pa k := by
  unfold Ngt.next
  split
  · exact Ngt.setP_pa_ne h
  · split
    · exact Ngt.arrive_pa_ne h
    · exact Ngt.setP_pa_ne h
def Ngt.isA (N : Ngt) (g : Int) : Bool := decide ((N.pa g).g.came = N.tick)
def Ngt.isB (N : Ngt) (g : Int) : Bool := decide ((N.pa g).comes = N.tick)
theorem Ngt.foldA (N : Ngt) (k : Nat) : (List.range k).foldl Ngt.comeA N = ((ints k).filter N.isA).foldl Ngt.next N := by
  rw [← cond_fold (c := Ngt.isA) (f := Ngt.next) (fun N g j g0 j0 h => by
    unfold Ngt.isA
    rw [Ngt.next_pa_ne (by omega), (N.next_rest g).2.1]) _ _ (ints_nodup _) fun g hg => (ints_mem.1 hg).1]
  unfold ints
  rw [List.foldl_map]
  congr 1
  funext M i
  unfold Ngt.comeA Ngt.isA
  simp only [decide_eq_true_eq]
theorem Ngt.foldB (N : Ngt) (k : Nat) : (List.range k).foldl Ngt.comeB N = ((ints k).filter N.isB).foldl Ngt.arrive N := by
  rw [← cond_fold (c := Ngt.isB) (f := Ngt.arrive) (fun N g j g0 j0 h => by
    unfold Ngt.isB
    rw [Ngt.arrive_pa_ne (by omega), (N.arrive_rest g).2.1]) _ _ (ints_nodup _) fun g hg => (ints_mem.1 hg).1]
  unfold ints
  rw [List.foldl_map]
  congr 1
  funext M i
  unfold Ngt.comeB Ngt.isB
  simp only [decide_eq_true_eq]

section
variable {w : Int} {B : List BthG} {G : List Grp} {d e : Int} {N : Ngt} {S : Pl} {pl : Int → Int} {up : List Int} {fx : Int}
/-- groups that have not come yet are taken in hand -/
theorem Rl.hand0 (h : Rl w B G d e N S pl [] fx) (L : List Int) (hL : ∀ g ∈ L, pl g = 0) : Rl w B G d e N S (fun g => if g ∈ L then 5 else pl g) [] fx := by
  have hpn : ∀ k, pl k ≠ 0 → (if k ∈ L then 5 else pl k) = pl k := fun k hk => if_neg fun hm => hk (hL k hm)
  have hpp : ∀ (k p : Int), p ≠ 5 → (if k ∈ L then 5 else pl k) = p → pl k = p := fun k p hp hk => by
    split at hk
    · omega
    · exact hk
  refine { h with gr := ?_, wk := ?_, qu := ?_, ql := ?_, qe := ?_, qc := ?_, oe := ?_, oc := ?_, ue := fun k hk => (by cases hk), uc := ?_ }
  · intro k k0 k1
    have hr := h.gr k k0 k1
    by_cases c : k ∈ L
    · rw [if_pos c]
      have hp := hL k c
      have h0 := hr.c0 hp
      refine ⟨hr.w0, hr.w1, hr.tk, fun _ => hr.cm (by omega), ?_, fun h' => by omega, fun h' => by omega, fun h' => by omega, fun h' => by omega, fun h' => by omega, fun _ => by omega, fun h' => by omega, fun h' => by omega, by omega⟩
      rcases hr.hm with h' | h'
      · exact .inl h'
      · omega
    · rw [if_neg c]; exact hr
  · intro k k0 k1 hk
    exact h.wk k k0 k1 (hpp k 1 (by omega) hk)
  · intro r r0 r1
    rw [← h.qu r r0 r1]
    apply List.filter_congr
    intro k _
    by_cases c : k ∈ L
    · have hp := hL k c
      rw [if_pos c, decide_eq_true (show (5 : Int) ≠ 6 by omega), decide_eq_true (show pl k ≠ 6 by omega)]
    · rw [if_neg c]
  · intro r r0 r1 k hk
    obtain ⟨a1, a2, a3⟩ := h.ql r r0 r1 k hk
    exact ⟨a1, a2, fun h6 => a3 (hpp k 6 (by omega) h6)⟩
  · intro r r0 r1 x hx
    obtain ⟨a1, a2, a3, a4, a5⟩ := h.qe r r0 r1 x hx
    exact ⟨a1, a2, by rw [hpn _ (by omega)]; exact a3, a4, a5⟩
  · intro k k0 k1 hk
    exact h.qc k k0 k1 (hpp k 2 (by omega) hk)
  · intro r r0 r1 k hk
    obtain ⟨a1, a2, a3, a4⟩ := h.oe r r0 r1 k hk
    exact ⟨a1, a2, by rw [hpn _ (by omega)]; exact a3, a4⟩
  · intro k k0 k1 hk
    exact h.oc k k0 k1 (hpp k 3 (by omega) hk)
  · intro k k0 k1 hk
    exact h.uc k k0 k1 (hpp k 7 (by omega) hk)
/-- a list of groups comes to queues -/
theorem Rl.standsL (hv : Val w B G) : ∀ (L : List Int) (N : Ngt) (S : Pl) (pl : Int → Int), Rl w B G d e N S pl [] fx → Mo G N → (∀ g ∈ L, 0 ≤ g ∧ g < G.length ∧ pl g = 1) → L.Nodup →
    (∀ k, (hk : k < L.length) → ((L.take k).foldl Ngt.arrive N).Arr L[k]) ∧ ∃ pl', Rl w B G d e (L.foldl Ngt.arrive N) (L.foldl Pl.stand S) pl' [] fx ∧ Mo G (L.foldl Ngt.arrive N) ∧
      (∀ k, k ∉ L → pl' k = pl k) ∧ (∀ k ∈ L, pl' k = 2) ∧ (∀ k : Int, 0 ≤ k → k ∉ L → (L.foldl Ngt.arrive N).pa k = N.pa k) ∧ (L.foldl Ngt.arrive N).tick = N.tick
  | [], N, S, pl, h, m, _, _ => ⟨fun k hk => absurd hk (Nat.not_lt_zero _), pl, h, m, fun _ _ => rfl, fun k hk => (by cases hk), fun _ _ _ => rfl, rfl⟩
  | g :: L, N, S, pl, h, m, hL, hn => by
    obtain ⟨g0, g1, hp⟩ := hL g (List.mem_cons_self ..)
    obtain ⟨n1, n2⟩ := List.nodup_cons.1 hn
    have h1 := h.stands hv g0 g1 hp
    have hr := h.gr g g0 g1
    obtain ⟨q1, pl', q2, q3, q4, q5, q6, q7⟩ := Rl.standsL hv L (N.arrive g) (S.stand g) _ h1 (m.arrive g) (fun k hk => by
      obtain ⟨a1, a2, a3⟩ := hL k (List.mem_cons_of_mem _ hk)
      exact ⟨a1, a2, by rw [plu_ne (show k ≠ g from fun c => n1 (by rw [← c]; exact hk))]; exact a3⟩) n2
    refine ⟨fun k hk => ?_, pl', q2, q3, fun k hk => ?_, fun k hk => ?_, fun k k0 hk => ?_, by rw [List.foldl_cons, q7]; rfl⟩
    · cases k with
      | zero => exact h.arr_ok hv g0 g1 (hr.c1 hp).2.2.1
      | succ k => exact q1 k (by simpa using hk)
    · have hk1 : k ≠ g := fun c => hk (c ▸ List.mem_cons_self ..)
      rw [q4 k fun c => hk (List.mem_cons_of_mem _ c), plu_ne hk1]
    · rcases List.mem_cons.1 hk with rfl | hk
      · rw [q4 k n1, plu_same]
      · exact q5 k hk
    · have hk1 : k ≠ g := fun c => hk (c ▸ List.mem_cons_self ..)
      rw [List.foldl_cons, q6 k k0 fun c => hk (List.mem_cons_of_mem _ c), Ngt.arrive_pa_ne (by omega)]

/-- all who walk have still to walk -/
theorem Rl.walks (h : Rl w B G 0 e N S pl up fx) (hk : ∀ g : Int, 0 ≤ g → g < G.length → pl g = 1 → N.tick + 1 ≤ (N.pa g).comes) : Rl w B G 1 e N S pl up fx := { h with wk := hk }

theorem Rl.come_ (h : Rl w B G 0 e N S pl [] fx) (hv : Val w B G) (m : Mo G N) (ht : N.tick ≤ 4000) (hreg : ∀ g : Int, 0 ≤ g → g < G.length → pl g ≤ 4) (h0 : ∀ g : Int, 0 ≤ g → g < G.length → (pl g = 0 ↔ N.tick ≤ (gd G g).came)) :
    ComeOK N ∧ ∃ pl', Rl w B G 1 e N.come S.come pl' [] fx ∧ Mo G N.come ∧ N.come.tick = N.tick ∧ ∀ g : Int, 0 ≤ g → g < G.length → pl' g ≤ 4 ∧ (pl' g = 0 ↔ N.tick + 1 ≤ (gd G g).came) := by
  have ht0 := h.t0
  have hgd : ∀ g : Int, 0 ≤ g → g < G.length → (N.pa g).g = gd G g := fun g g0 g1 => h.pg g0 g1
  have hA : ∀ g ∈ (ints G.length).filter N.isA, 0 ≤ g ∧ g < G.length ∧ (gd G g).came = N.tick := fun g hg => by
    obtain ⟨h1, h2⟩ := List.mem_filter.1 hg
    obtain ⟨g0, g1⟩ := ints_mem.1 h1
    unfold Ngt.isA at h2
    rw [decide_eq_true_eq, hgd g g0 g1] at h2
    exact ⟨g0, g1, h2⟩
  have hA' : ∀ g : Int, 0 ≤ g → g < G.length → (gd G g).came = N.tick → g ∈ (ints G.length).filter N.isA := fun g g0 g1 hc => by
    refine List.mem_filter.2 ⟨ints_mem.2 ⟨g0, g1⟩, ?_⟩
    unfold Ngt.isA
    rw [decide_eq_true_eq, hgd g g0 g1]
    exact hc
  have hnA : ((ints G.length).filter N.isA).Nodup := (ints_nodup _).sublist List.filter_sublist
  have h1 := h.hand0 ((ints G.length).filter N.isA) fun g hg => by
    obtain ⟨g0, g1, hc⟩ := hA g hg
    exact (h0 g g0 g1).2 (by omega)
  obtain ⟨q1, pl1, q2, q3, q4, q5, q6, q7⟩ := Rl.goes hv (by omega) _ _ _ _ h1 m (by omega) (fun g hg => by
    obtain ⟨g0, g1, hc⟩ := hA g hg
    exact ⟨g0, g1, if_pos hg⟩) hnA
  have hfA := N.foldA
  have hSA : (ints G.length).filter S.comeA = (ints G.length).filter N.isA := by
    apply List.filter_congr
    intro g hg
    obtain ⟨g0, g1⟩ := ints_mem.1 hg
    have hr := h.gr g g0 g1
    have hst := hr.st_of (hreg g g0 g1)
    have hp0 := h0 g g0 g1
    unfold Pl.comeA Ngt.isA
    have e1 : S.gr g = gd G g := by unfold Pl.gr; rw [h.sg]; rfl
    rw [hst, e1, h.tk, hgd g g0 g1]
    by_cases c : (gd G g).came = N.tick
    · rw [decide_eq_true (hp0.2 (by omega)), Bool.true_and]
    · rw [decide_eq_false c, Bool.and_false]
  generalize hLA : (ints G.length).filter N.isA = LA at *
  generalize hN1 : LA.foldl Ngt.next N = N1 at *
  have hN1t : N1.tick = N.tick := q7
  have hB1 : ∀ g : Int, 0 ≤ g → g < G.length → ((N1.pa g).comes = N.tick ↔ (S.gu g).st = 1 ∧ S.now - (S.gu g).since = w) := fun g g0 g1 => by
    have hr := h.gr g g0 g1
    have hst := hr.st_of (hreg g g0 g1)
    have htk := h.tk
    by_cases c : g ∈ LA
    · have hp0 : pl g = 0 := (h0 g g0 g1).2 (by have := (hA g c).2.2; omega)
      have hr1 := q2.gr g g0 g1
      rcases q5 g c with h5 | h5 | ⟨h5, h6, h7⟩
      · have := hr1.cm (by omega); omega
      · have := hr1.cm (by omega); omega
      · omega
    · have hpa := q6 g g0 c
      rw [hpa]
      by_cases hp1 : pl g = 1
      · obtain ⟨c1, c2, c3, c4, c5, c6, c7⟩ := hr.c1 hp1
        omega
      · have := hr.cm hp1
        omega
  have hSB : (ints G.length).filter S.comeB = (ints G.length).filter N1.isB := by
    apply List.filter_congr
    intro g hg
    obtain ⟨g0, g1⟩ := ints_mem.1 hg
    have := hB1 g g0 g1
    unfold Pl.comeB Ngt.isB
    rw [h.sw, hN1t, ← Bool.decide_and]
    exact decide_eq_decide.2 this.symm
  have hB : ∀ g ∈ (ints G.length).filter N1.isB, 0 ≤ g ∧ g < G.length ∧ pl1 g = 1 := fun g hg => by
    obtain ⟨h1, h2⟩ := List.mem_filter.1 hg
    obtain ⟨g0, g1⟩ := ints_mem.1 h1
    unfold Ngt.isB at h2
    rw [decide_eq_true_eq] at h2
    refine ⟨g0, g1, ?_⟩
    by_cases c : pl1 g = 1
    · exact c
    · have := (q2.gr g g0 g1).cm c
      omega
  obtain ⟨r1, pl2, r2, r3, r4, r5, r6, r7⟩ := Rl.standsL hv _ _ _ _ q2 q3 hB ((ints_nodup _).sublist List.filter_sublist)
  have hcome : N.come = ((ints G.length).filter N1.isB).foldl Ngt.arrive N1 := by
    unfold Ngt.come
    rw [h.np, hfA, hLA, hN1, N1.foldB]
  have hScome : S.come = ((ints G.length).filter N1.isB).foldl Pl.stand (LA.foldl Pl.on S) := by
    unfold Pl.come
    rw [h.sg, Pl.come_fold _ _ (ints_nodup _) (fun g hg => (ints_mem.1 hg).1) (fun hw g hg => ?_), hSA, hSB]
    obtain ⟨g0, g1⟩ := ints_mem.1 hg
    have hr := h.gr g g0 g1
    have hst := hr.st_of (hreg g g0 g1)
    unfold Pl.comeB
    rw [hst]
    by_cases c : pl g = 1
    · have := (hr.c1 c).2.2.2.2.1
      rw [h.sw] at hw
      exact absurd hw this
    · rw [decide_eq_false c, Bool.false_and]
  have hfin : ∀ g : Int, 0 ≤ g → g < G.length → pl2 g = 1 → N.tick + 1 ≤ ((((ints G.length).filter N1.isB).foldl Ngt.arrive N1).pa g).comes := fun g g0 g1 hp => by
    by_cases c : g ∈ (ints G.length).filter N1.isB
    · have := r5 g c; omega
    · rw [r6 g g0 c]
      rw [r4 g c] at hp
      have hne : (N1.pa g).comes ≠ N.tick := fun e => c (List.mem_filter.2 ⟨ints_mem.2 ⟨g0, g1⟩, by unfold Ngt.isB; rw [decide_eq_true_eq, hN1t]; exact e⟩)
      have := q2.wk g g0 g1 hp
      rw [hN1t] at this
      omega
  refine ⟨⟨fun k hk hc => ?_, fun k hk hc => ?_⟩, pl2, ?_, ?_, ?_, fun g g0 g1 => ?_⟩
  · rw [h.np] at hk
    rw [hfA k] at hc ⊢
    have hst : (((ints k).filter N.isA).foldl Ngt.next N).stat B.length G := foldl_stat (fun N g h => N.next_stat h g) _ _ h.stat
    have htk : ∀ (L : List Int) (M : Ngt), (L.foldl Ngt.next M).tick = M.tick := fun L => by
      induction L with
      | nil => intro M; rfl
      | cons a L ih => intro M; rw [List.foldl_cons, ih, (M.next_rest a).2.1]
    have hpk : ((((ints k).filter N.isA).foldl Ngt.next N).pa k).g = gd G k := by
      have hg : ((k : Nat) : Int).toNat < (((ints k).filter N.isA).foldl Ngt.next N).parties.length := by rw [hst.len]; exact hk
      have e2 : (((((ints k).filter N.isA).foldl Ngt.next N).parties.map Pty.g).getD ((k : Nat) : Int).toNat Grp.d) = ((((ints k).filter N.isA).foldl Ngt.next N).pa k).g := by simp only [Ngt.pa, List.getD, List.getElem?_map]; simp only [List.getElem?_eq_getElem hg]; rfl
      rw [← e2, hst.2]
      rfl
    rw [hpk, htk] at hc
    have hik : N.isA k = true := by
      unfold Ngt.isA
      rw [decide_eq_true_eq, hgd k (by omega) (by omega)]
      exact hc
    obtain ⟨s1, s2, s3⟩ := filter_split (n := G.length) hk hik
    simp only [hLA] at s1 s2 s3
    have := q1 _ s2
    rw [s1, s3] at this
    exact this
  · rw [h.np] at hk hc ⊢
    rw [hfA, hLA, hN1, N1.foldB] at hc ⊢
    have hpk : ((((ints k).filter N1.isB).foldl Ngt.arrive N1).pa k) = N1.pa k := by
      have : ∀ (L : List Int) (M : Ngt), (∀ j ∈ L, (k : Int).toNat ≠ j.toNat) → (L.foldl Ngt.arrive M).pa k = M.pa k := fun L => by
        induction L with
        | nil => intro M _; rfl
        | cons a L ih => intro M hM; rw [List.foldl_cons, ih _ fun j hj => hM j (List.mem_cons_of_mem _ hj), Ngt.arrive_pa_ne (hM a (List.mem_cons_self ..))]
      refine this _ _ fun j hj => ?_
      have := ints_mem.1 (List.mem_filter.1 hj).1
      omega
    have htk : ∀ (L : List Int) (M : Ngt), (L.foldl Ngt.arrive M).tick = M.tick := fun L => by
      induction L with
      | nil => intro M; rfl
      | cons a L ih => intro M; rw [List.foldl_cons, ih]; rfl
    rw [hpk, htk] at hc
    have hik : N1.isB k = true := by unfold Ngt.isB; rw [decide_eq_true_eq]; exact hc
    obtain ⟨s1, s2, s3⟩ := filter_split (n := G.length) hk hik
    have := r1 _ s2
    rw [s1, s3] at this
    exact this
  · rw [hcome, hScome]
    exact r2.walks (by rw [r7, hN1t]; exact hfin)
  · rw [hcome]; exact r3
  · rw [hcome, r7, hN1t]
  · have hp0 := h0 g g0 g1
    have hre := hreg g g0 g1
    by_cases c : g ∈ (ints G.length).filter N1.isB
    · have h2 := r5 g c
      have h1' := (hB g c).2.2
      refine ⟨by omega, ⟨fun e => by omega, fun e => ?_⟩⟩
      by_cases cA : g ∈ LA
      · have := (hA g cA).2.2; omega
      · rw [q4 g cA, if_neg cA] at h1'
        omega
    · rw [r4 g c]
      by_cases cA : g ∈ LA
      · have hc := (hA g cA).2.2
        rcases q5 g cA with h5 | h5 | ⟨h5, _⟩ <;> omega
      · rw [q4 g cA, if_neg cA]
        refine ⟨hre, ?_⟩
        rw [hp0]
        constructor
        · intro e
          have : (gd G g).came ≠ N.tick := fun e' => cA (hA' g g0 g1 e')
          omega
        · intro e; omega
end
end Go.Proofs.Ytgcefaikdplbkaa
