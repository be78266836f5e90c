/- Tokens and visits of the program's model; a group that gets on; lists of groups that go on. No program in sight. -/
import Derived.Test.YtgcefaikdplbkaaQb3
namespace Go.Proofs.Ytgcefaikdplbkaa
open Go.RowKit

/-! ### Tokens and visits -/
def Ngt.takesL (N : Ngt) : List Int := N.rides.map Bth.takes
def Ngt.purseL (N : Ngt) : List Int := N.parties.map Pty.purse
def Ngt.wishL (N : Ngt) : List Int := N.parties.map Pty.wish
theorem Ngt.bo_takes (N : Ngt) (r : Int) : (N.bo r).takes = gt N.takesL r := by
  unfold Ngt.bo gt Ngt.takesL
  by_cases h : r.toNat < N.rides.length
  · simp [List.getD, h]
  · simp [List.getD, h, Bth.d]
theorem Ngt.pa_purse (N : Ngt) (g : Int) : (N.pa g).purse = gt N.purseL g := by
  unfold Ngt.pa gt Ngt.purseL
  by_cases h : g.toNat < N.parties.length
  · simp [List.getD, h]
  · simp [List.getD, h, Pty.d]
theorem Ngt.pa_wish (N : Ngt) (g : Int) : (N.pa g).wish = gt N.wishL g := by
  unfold Ngt.pa gt Ngt.wishL
  by_cases h : g.toNat < N.parties.length
  · simp [List.getD, h]
  · simp [List.getD, h, Pty.d]
structure Mo (G : List Grp) (N : Ngt) : Prop where
  lp : N.parties.length = G.length
  mt : sumI N.takesL + sumI N.purseL = sumI (G.map Grp.tokens)
  tp : ∀ x ∈ N.takesL, 0 ≤ x
  pp : ∀ x ∈ N.purseL, 0 ≤ x
  vl : (N.visits.length : Int) = sumI N.wishL
  vk : ∀ v ∈ N.visits, 0 ≤ v.1 ∧ v.1 < G.length ∧ 0 ≤ v.2.1 ∧ v.2.1 < gt N.wishL v.1 ∧ 0 ≤ v.left ∧ v.left ≤ N.tick
  vu : N.visits.Pairwise fun a b => ¬ (a.1 = b.1 ∧ a.2.1 = b.2.1)
theorem Mo.keep {G : List Grp} {N N' : Ngt} (h : Mo G N) (e0 : N'.parties.length = N.parties.length) (e1 : N'.takesL = N.takesL) (e2 : N'.purseL = N.purseL) (e3 : N'.wishL = N.wishL) (e4 : N'.visits = N.visits) (e5 : N.tick ≤ N'.tick) : Mo G N' :=
  ⟨by rw [e0]; exact h.lp, by rw [e1, e2]; exact h.mt, by rw [e1]; exact h.tp, by rw [e2]; exact h.pp, by rw [e3, e4]; exact h.vl, by
    rw [e3, e4]
    intro v hv
    obtain ⟨a1, a2, a3, a4, a5, a6⟩ := h.vk v hv
    exact ⟨a1, a2, a3, a4, a5, by omega⟩, by rw [e4]; exact h.vu⟩
theorem map_set_same {α β : Type} {f : α → β} {xs : List α} {i : Nat} {x d : α} (h : f x = f (xs.getD i d)) : (xs.set i x).map f = xs.map f := by
  apply List.ext_getElem
  · simp
  · intro k h1 h2
    simp only [List.getElem_map, List.getElem_set]
    split
    · rename_i e
      subst e
      rw [h]
      simp only [List.length_map] at h2
      simp [List.getD, h2]
    · rfl
theorem Ngt.setP_purseL {N : Ngt} {g : Int} {p : Pty} (h : p.purse = (N.pa g).purse) : (N.setP g p).purseL = N.purseL := map_set_same (d := Pty.d) h
theorem Ngt.setP_wishL {N : Ngt} {g : Int} {p : Pty} (h : p.wish = (N.pa g).wish) : (N.setP g p).wishL = N.wishL := map_set_same (d := Pty.d) h
theorem Ngt.setR_takesL {N : Ngt} {i : Int} {r : Bth} (h : r.takes = (N.bo i).takes) : (N.setR i r).takesL = N.takesL := map_set_same (d := Bth.d) h
theorem Mo.arrive {G : List Grp} {N : Ngt} (h : Mo G N) (g : Int) : Mo G (N.arrive g) := by
  refine h.keep (List.length_set ..) ?_ ?_ ?_ rfl (Int.le_refl _)
  · exact Ngt.setR_takesL (N := N.setP g _) rfl
  · exact Ngt.setP_purseL rfl
  · exact Ngt.setP_wishL rfl
theorem Mo.next {G : List Grp} {N : Ngt} (h : Mo G N) (g : Int) : Mo G (N.next g) := by
  unfold Ngt.next
  split
  · exact h.keep (List.length_set ..) rfl (Ngt.setP_purseL rfl) (Ngt.setP_wishL rfl) rfl (Int.le_refl _)
  · split
    · exact h.arrive g
    · exact h.keep (List.length_set ..) rfl (Ngt.setP_purseL rfl) (Ngt.setP_wishL rfl) rfl (Int.le_refl _)
theorem Mo.done {G : List Grp} {N : Ngt} (h : Mo G N) (ht : 0 ≤ N.tick) {g c : Int} (g0 : 0 ≤ g) (g1 : g < G.length) (b : Bool) (hw : 0 ≤ (N.pa g).wish) : Mo G (N.done (g, c) b) := by
  have hl : g.toNat < N.wishL.length := by unfold Ngt.wishL; rw [List.length_map, h.lp]; omega
  have ew : (N.done (g, c) b).wishL = N.wishL.set g.toNat (gt N.wishL g + 1) := by
    rw [← N.pa_wish]
    unfold Ngt.wishL Ngt.done Ngt.setP Ngt.setV
    simp only
    rw [List.map_set]
  have gw : ∀ k : Int, 0 ≤ k → gt (N.done (g, c) b).wishL k = if k = g then gt N.wishL g + 1 else gt N.wishL k := fun k hk => by
    rw [ew]
    unfold gt
    rw [getD_setq hl]
    simp only [toNat_inj hk g0]
  refine ⟨(List.length_set ..).trans h.lp, ?_, h.tp, ?_, ?_, ?_, ?_⟩
  · have e2 : (N.done (g, c) b).purseL = N.purseL := Ngt.setP_purseL (N := N.setV _) rfl
    rw [e2]
    exact h.mt
  · have e2 : (N.done (g, c) b).purseL = N.purseL := Ngt.setP_purseL (N := N.setV _) rfl
    rw [e2]
    exact h.pp
  · rw [ew, sumI_setI g0 (by omega)]
    show ((N.visits ++ [_]).length : Int) = _
    have := h.vl
    rw [List.length_append]
    simp only [List.length_cons, List.length_nil]
    omega
  · intro v hv
    have hv : v ∈ N.visits ++ [(g, (N.pa g).wish, gt (N.pa g).g.wants (N.pa g).wish, b, c, N.tick)] := hv
    show _ ∧ _ ∧ _ ∧ _ ∧ _ ∧ v.left ≤ N.tick
    rcases List.mem_append.1 hv with hv | hv
    · obtain ⟨a1, a2, a3, a4, a5, a6⟩ := h.vk v hv
      refine ⟨a1, a2, a3, ?_, a5, a6⟩
      rw [gw _ a1]
      split
      · rename_i e; rw [e] at a4; omega
      · exact a4
    · rw [List.mem_singleton.1 hv]
      refine ⟨g0, g1, hw, ?_, ht, Int.le_refl _⟩
      show (N.pa g).wish < gt _ g
      rw [gw g g0, if_pos rfl, N.pa_wish]
      omega
  · show (N.visits ++ [_]).Pairwise _
    refine List.pairwise_append.2 ⟨h.vu, List.pairwise_singleton .., fun a ha x hx => ?_⟩
    rw [List.mem_singleton.1 hx]
    obtain ⟨a1, a2, a3, a4, a5, a6⟩ := h.vk a ha
    rintro ⟨e1, e2⟩
    have e1 : a.1 = g := e1
    have e2 : a.2.1 = (N.pa g).wish := e2
    rw [e1, ← N.pa_wish] at a4
    omega
theorem sumI_nonneg {xs : List Int} (h : ∀ x ∈ xs, 0 ≤ x) : 0 ≤ sumI xs := by
  induction xs with
  | nil => simp [sumI]
  | cons x xs ih =>
    have := ih fun y hy => h y (List.mem_cons_of_mem _ hy)
    have := h x (List.mem_cons_self ..)
    simp only [sumI]
    omega
theorem sumI_mem {xs : List Int} (h : ∀ x ∈ xs, 0 ≤ x) {y : Int} (hy : y ∈ xs) : y ≤ sumI xs := by
  induction xs with
  | nil => cases hy
  | cons x xs ih =>
    have h1 := sumI_nonneg fun z hz => h z (List.mem_cons_of_mem _ hz)
    have h2 := h x (List.mem_cons_self ..)
    simp only [sumI]
    rcases List.mem_cons.1 hy with rfl | hy
    · omega
    · have := ih (fun z hz => h z (List.mem_cons_of_mem _ hz)) hy
      omega
theorem gt_mem_or {xs : List Int} (i : Int) : gt xs i ∈ xs ∨ gt xs i = 0 := by
  by_cases h : i.toNat < xs.length
  · rw [gt_eq h]; exact .inl (List.getElem_mem h)
  · right; simp [gt, List.getD, h]
section
variable {w : Int} {B : List BthG} {G : List Grp} {d e : Int} {N : Ngt} {S : Pl} {pl : Int → Int} {up : List Int} {fx : Int}
theorem Mo.tokens (h : Mo G N) (hv : Val w B G) : 0 ≤ sumI N.takesL ∧ sumI N.takesL ≤ 600000 ∧ 0 ≤ sumI N.purseL ∧ sumI N.purseL ≤ 600000 := by
  have h1 := sumI_nonneg h.tp
  have h2 := sumI_nonneg h.pp
  have h3 := sumI_le (xs := G.map Grp.tokens) (m := 10000) (fun x hx => by
    obtain ⟨g, hg, rfl⟩ := List.mem_map.1 hx
    exact (hv.g g hg).2.2.1)
  rw [List.length_map] at h3
  have := h.mt
  have := hv.n
  omega
theorem Mo.take (h : Mo G N) (hv : Val w B G) (r : Int) : 0 ≤ (N.bo r).takes ∧ (N.bo r).takes ≤ 600000 := by
  rw [N.bo_takes]
  have := h.tokens hv
  rcases gt_mem_or (xs := N.takesL) r with hm | hm
  · have := sumI_mem h.tp hm
    have := h.tp _ hm
    omega
  · omega
theorem Mo.purse (h : Mo G N) (hv : Val w B G) (g : Int) : 0 ≤ (N.pa g).purse ∧ (N.pa g).purse ≤ 600000 := by
  rw [N.pa_purse]
  have := h.tokens hv
  rcases gt_mem_or (xs := N.purseL) g with hm | hm
  · have := sumI_mem h.pp hm
    have := h.pp _ hm
    omega
  · omega
theorem Val.wlen (hv : Val w B G) (g : Int) : (wn G g).length ≤ 10 := by
  unfold wn
  by_cases hg : g.toNat < G.length
  · have e2 : G.getD g.toNat Grp.d = G[g.toNat] := by simp [List.getD, hg]
    rw [e2]
    exact (hv.g _ (List.getElem_mem hg)).2.2.2.1
  · have e2 : G.getD g.toNat Grp.d = Grp.d := by simp [List.getD, hg]
    rw [e2]
    exact Nat.zero_le _
theorem Rl.vlen (h : Rl w B G d e N S pl up fx) (hv : Val w B G) (m : Mo G N) : N.visits.length ≤ 600 := by
  have h3 := sumI_le (xs := N.wishL) (m := 10) (fun x hx => by
    obtain ⟨p, hp, rfl⟩ := List.mem_map.1 hx
    obtain ⟨i, hi, rfl⟩ := List.getElem_of_mem hp
    have hi' : i < G.length := by rw [← h.np]; exact hi
    have hr := h.gr i (by omega) (by omega)
    have e1 : N.pa i = N.parties[i] := by simp [Ngt.pa, List.getD, hi]
    rw [e1] at hr
    have := hr.w0
    have := hr.w1
    have := hv.wlen i
    omega)
  have e : N.wishL.length = G.length := by unfold Ngt.wishL; rw [List.length_map, h.np]
  have := m.vl
  have := hv.n
  rw [e] at h3
  omega
theorem Mo.visOK (m : Mo G N) (h : Rl w B G d e N S pl up fx) (hv : Val w B G) (ht : N.tick ≤ 5000) : VisOK N.visits := by
  refine ⟨by have := h.vlen hv m; omega, fun v hm => ?_, fun x hx y hy e1 e2 => ?_⟩
  · obtain ⟨a1, a2, a3, a4, a5, a6⟩ := m.vk v hm
    have hr := h.gr v.1 a1 a2
    have := hr.w1
    have := hv.wlen v.1
    rw [← N.pa_wish] at a4
    have := hv.n
    omega
  · obtain ⟨i, hi, rfl⟩ := List.getElem_of_mem hx
    obtain ⟨j, hj, rfl⟩ := List.getElem_of_mem hy
    have hpw := List.pairwise_iff_getElem.1 m.vu
    rcases Nat.lt_trichotomy i j with h' | h' | h'
    · exact absurd ⟨e1, e2⟩ (hpw i j hi hj h')
    · subst h'; rfl
    · exact absurd ⟨e1.symm, e2.symm⟩ (hpw j i hj hi h')

/-! ### A group goes on in both -/
theorem Rl.both (h : Rl w B G d e N S pl [] fx) (hv : Val w B G) (hd : d ≤ 1) {g : Int} (g0 : 0 ≤ g) (g1 : g < G.length) (hp : pl g = 5) : Rl w B G d e (N.next g) (S.on g) (plu pl g (wto w (wn G g) (N.pa g).wish)) [] fx := by
  have h1 := (h.go hv g0 g1 hp).after hv hd
  have e1 : plu (plu pl g 7) g (wto w (wn G g) (N.pa g).wish) = plu pl g (wto w (wn G g) (N.pa g).wish) := by
    funext k
    unfold plu
    split <;> rfl
  rw [e1] at h1
  exact h1
theorem wto_in (w : Int) (W : List Int) (n : Int) : wto w W n = 4 ∨ wto w W n = 2 ∧ n ≠ W.length ∨ wto w W n = 1 ∧ n ≠ W.length ∧ w ≠ 0 := by
  unfold wto
  by_cases c1 : n = W.length
  · rw [if_pos c1]; exact .inl rfl
  · rw [if_neg c1]
    by_cases c2 : w = 0
    · rw [if_pos c2]; exact .inr (.inl ⟨rfl, c1⟩)
    · rw [if_neg c2]; exact .inr (.inr ⟨rfl, c1, c2⟩)
/-- a list of groups goes on -/
theorem Rl.goes (hv : Val w B G) (hd : d ≤ 1) : ∀ (L : List Int) (N : Ngt) (S : Pl) (pl : Int → Int), Rl w B G d e N S pl [] fx → Mo G N → N.tick ≤ 5000 → (∀ g ∈ L, 0 ≤ g ∧ g < G.length ∧ pl g = 5) → L.Nodup →
    (∀ k, (hk : k < L.length) → ((L.take k).foldl Ngt.next N).Nxt L[k]) ∧ ∃ pl', Rl w B G d e (L.foldl Ngt.next N) (L.foldl Pl.on S) pl' [] fx ∧ Mo G (L.foldl Ngt.next N) ∧
      (∀ k, k ∉ L → pl' k = pl k) ∧ (∀ k ∈ L, pl' k = 4 ∨ pl' k = 2 ∨ pl' k = 1 ∧ ((L.foldl Ngt.next N).pa k).comes = N.tick + w ∧ w ≠ 0) ∧ (∀ k : Int, 0 ≤ k → k ∉ L → (L.foldl Ngt.next N).pa k = N.pa k) ∧ (L.foldl Ngt.next N).tick = N.tick
  | [], N, S, pl, h, m, _, _, _ => ⟨fun k hk => absurd hk (Nat.not_lt_zero _), pl, h, m, fun _ _ => rfl, fun k hk => (by cases hk), fun _ _ _ => rfl, rfl⟩
  | g :: L, N, S, pl, h, m, ht, hL, hn => by
    obtain ⟨g0, g1, hp⟩ := hL g (List.mem_cons_self ..)
    obtain ⟨n1, n2⟩ := List.nodup_cons.1 hn
    have h1 := h.both hv hd g0 g1 hp
    have hr := h.gr g g0 g1
    have ht1 : (N.next g).tick = N.tick := (N.next_rest g).2.1
    have hgl : g.toNat < N.parties.length := by rw [h.np]; omega
    obtain ⟨q1, pl', q2, q3, q4, q5, q6, q7⟩ := Rl.goes hv hd L (N.next g) (S.on g) _ h1 (m.next g) (by rw [ht1]; exact ht) (fun k hk => by
      obtain ⟨a1, a2, a3⟩ := hL k (List.mem_cons_of_mem _ hk)
      exact ⟨a1, a2, by rw [plu_ne (show k ≠ g from fun c => n1 (by rw [← c]; exact hk))]; exact a3⟩) n2
    refine ⟨fun k hk => ?_, pl', q2, q3, fun k hk => ?_, fun k hk => ?_, fun k k0 hk => ?_, by rw [List.foldl_cons, q7, ht1]⟩
    · cases k with
      | zero => exact h.nxt_ok hv ht g0 g1
      | succ k => exact q1 k (by simpa using hk)
    · have hk1 : k ≠ g := fun c => hk (c ▸ List.mem_cons_self ..)
      rw [q4 k fun c => hk (List.mem_cons_of_mem _ c), plu_ne hk1]
    · rcases List.mem_cons.1 hk with rfl | hk
      · rw [q4 k n1, plu_same]
        rcases wto_in w (wn G k) (N.pa k).wish with c | ⟨c, _⟩ | ⟨c, c1, c2⟩
        · exact .inl c
        · exact .inr (.inl c)
        · refine .inr (.inr ⟨c, ?_, c2⟩)
          rw [List.foldl_cons, q6 k g0 n1, N.next_pa hgl, if_pos rfl]
          unfold Ngt.nx
          rw [h.pw g0 g1, if_neg c1, h.nw, if_neg c2]
      · have := q5 k hk
        rw [ht1] at this
        exact this
    · have hk1 : k ≠ g := fun c => hk (c ▸ List.mem_cons_self ..)
      rw [List.foldl_cons, q6 k k0 fun c => hk (List.mem_cons_of_mem _ c), N.next_pa hgl, if_neg (by omega)]
end

/-! ### Loops with a condition -/
theorem cond_fold {T : Type} {c : T → Int → Bool} {f : T → Int → T} (hc : ∀ S g k, 0 ≤ g → 0 ≤ k → k ≠ g → c (f S g) k = c S k) : ∀ (L : List Int) (S : T), L.Nodup → (∀ g ∈ L, 0 ≤ g) → L.foldl (fun S g => if c S g = true then f S g else S) S = (L.filter (c S)).foldl f S
  | [], _, _, _ => rfl
  | g :: L, S, hn, h0 => by
    obtain ⟨n1, n2⟩ := List.nodup_cons.1 hn
    have h0' : ∀ k ∈ L, 0 ≤ k := fun k hk => h0 k (List.mem_cons_of_mem _ hk)
    rw [List.foldl_cons, List.filter_cons]
    by_cases hg : c S g = true
    · rw [if_pos hg, if_pos hg, List.foldl_cons, cond_fold hc L _ n2 h0']
      congr 1
      apply List.filter_congr
      intro k hk
      exact hc S g k (h0 g (List.mem_cons_self ..)) (h0' k hk) fun e => n1 (e ▸ hk)
    · rw [if_neg hg, if_neg hg, cond_fold hc L _ n2 h0']
def ints (n : Nat) : List Int := (List.range n).map fun i : Nat => (i : Int)
theorem ints_mem {n : Nat} {g : Int} : g ∈ ints n ↔ 0 ≤ g ∧ g < n := by
  unfold ints
  rw [List.mem_map]
  constructor
  · rintro ⟨i, hi, rfl⟩
    have := List.mem_range.1 hi
    omega
  · intro h
    exact ⟨g.toNat, List.mem_range.2 (by omega), by omega⟩
theorem ints_sorted (n : Nat) : (ints n).Pairwise (· < ·) := by
  unfold ints
  rw [List.pairwise_map]
  exact List.pairwise_lt_range.imp fun h => by omega
theorem ints_nodup (n : Nat) : (ints n).Nodup := (ints_sorted n).imp fun h e => by omega
theorem sorted_ext : ∀ {l1 l2 : List Int}, l1.Pairwise (· < ·) → l2.Pairwise (· < ·) → (∀ x, x ∈ l1 ↔ x ∈ l2) → l1 = l2
  | [], [], _, _, _ => rfl
  | [], b :: l2, _, _, h => absurd ((h b).2 (List.mem_cons_self ..)) (by simp)
  | a :: l1, [], _, _, h => absurd ((h a).1 (List.mem_cons_self ..)) (by simp)
  | a :: l1, b :: l2, h1, h2, h => by
    obtain ⟨p1, p2⟩ := List.pairwise_cons.1 h1
    obtain ⟨q1, q2⟩ := List.pairwise_cons.1 h2
    have e : a = b := by
      have m1 : a ∈ b :: l2 := (h a).1 (List.mem_cons_self ..)
      have m2 : b ∈ a :: l1 := (h b).2 (List.mem_cons_self ..)
      rcases List.mem_cons.1 m1 with e | m1
      · exact e
      · rcases List.mem_cons.1 m2 with e | m2
        · exact e.symm
        · have := p1 b m2
          have := q1 a m1
          omega
    subst e
    rw [sorted_ext p2 q2 fun x => ?_]
    constructor
    · intro hx
      rcases List.mem_cons.1 ((h x).1 (List.mem_cons_of_mem _ hx)) with e | hx'
      · have := p1 x hx; omega
      · exact hx'
    · intro hx
      rcases List.mem_cons.1 ((h x).2 (List.mem_cons_of_mem _ hx)) with e | hx'
      · have := q1 x hx; omega
      · exact hx'
theorem isort_sorted {xs : List Int} (h : xs.Nodup) : (isort xs).Pairwise (· < ·) := by
  have h1 : (isort xs).Pairwise fun a b => decide (a ≤ b) = true := sortB_sorted (le := fun x y : Int => decide (x ≤ y)) (fun a b c h1 h2 => decide_eq_true (Int.le_trans (of_decide_eq_true h1) (of_decide_eq_true h2))) (fun a b => by simp only [decide_eq_true_eq]; omega) xs
  have h2 : (isort xs).Nodup := (sortB_perm _ xs).nodup_iff.2 h
  exact h1.imp₂ (fun _ _ h3 h4 => by have := of_decide_eq_true h3; omega) h2
end Go.Proofs.Ytgcefaikdplbkaa
