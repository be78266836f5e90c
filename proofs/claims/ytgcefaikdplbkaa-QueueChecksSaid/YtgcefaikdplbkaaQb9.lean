/- Rides begin, in both models. No program in sight. -/
import Derived.Test.YtgcefaikdplbkaaQb8
namespace Go.Proofs.Ytgcefaikdplbkaa
open Go.RowKit

section
variable {w : Int} {B : List BthG} {G : List Grp} {d e : Int} {N : Ngt} {S : Pl} {pl : Int → Int} {up : List Int} {fx : Int}
theorem Rl.bt_eq (h : Rl w B G d e N S pl up fx) {r : Int} (r0 : 0 ≤ r) (r1 : r < B.length) : S.bt r = (N.bo r).b := by rw [h.bb r0 r1]; unfold Pl.bt; rw [h.sb]
theorem Rl.gr_eq (h : Rl w B G d e N S pl up fx) {g : Int} (g0 : 0 ≤ g) (g1 : g < G.length) : S.gr g = (N.pa g).g := by rw [h.pg g0 g1]; unfold Pl.gr; rw [h.sg]

/-- what is known while a ride is filled -/
structure Fm (w : Int) (B : List BthG) (G : List Grp) (i : Int) (q : List (Int × Int)) (F : Fl) (S : Pl) (pl : Int → Int) (t : Int) : Prop where
  r : Rl w B G 1 1 (F.vis i q) S pl F.away i
  m : Mo G (F.vis i q)
  tk : F.N.tick = t
  t1 : t ≤ 4000
  s : F.seats ≤ (F.N.bo i).b.seats
  s0 : 0 ≤ F.seats
  so : F.seats < (F.N.bo i).b.seats ↔ (F.N.bo i).on ≠ []
  p : ∀ g : Int, 0 ≤ g → g < G.length → pl g ≤ 4 ∨ pl g = 7
theorem Fl.vis_bo (F : Fl) {i : Int} {q : List (Int × Int)} (hi : i.toNat < F.N.rides.length) : (F.vis i q).bo i = { F.N.bo i with queue := F.stay ++ q } := by
  unfold Fl.vis
  rw [Ngt.bo_setR hi, if_pos rfl]
theorem Fl.vis_bo_ne (F : Fl) {i r : Int} {q : List (Int × Int)} (h : r.toNat ≠ i.toNat) : (F.vis i q).bo r = F.N.bo r := by
  unfold Fl.vis Ngt.bo Ngt.setR
  simp only [List.getD, List.getElem?_set]
  rw [if_neg fun e => h e.symm]

/-- the first of the queue is taken out -/
theorem Rl.first {F : Fl} {s : Int × Int} {q : List (Int × Int)} {i : Int} (h : Rl w B G d e (F.vis i (s :: q)) S pl up fx) (i0 : 0 ≤ i) (i1 : i < B.length) :
    (0 ≤ s.1 ∧ s.1 < G.length ∧ pl s.1 = 2 ∧ gt (wn G s.1) (F.N.pa s.1).wish = i ∧ s.2 = (S.gu s.1).since) ∧
    Rl w B G d e (F.vis i q) S (plu pl s.1 6) up fx := by
  have hil : i.toNat < F.N.rides.length := by
    have := h.nr
    unfold Fl.vis Ngt.setR at this
    simp only [List.length_set] at this
    omega
  have hbo : (F.vis i (s :: q)).bo i = { F.N.bo i with queue := F.stay ++ s :: q } := F.vis_bo hil
  have hq := h.qe i i0 i1 s (by rw [hbo]; simp)
  obtain ⟨a1, a2, a3, a4, a5⟩ := hq
  have hpa : ∀ k, (F.vis i (s :: q)).pa k = F.N.pa k := fun k => rfl
  have hqn := h.qn i i0 i1
  rw [hbo] at hqn
  have hqn : ((F.stay ++ s :: q).map Prod.fst).Nodup := hqn
  have h1 := h.take (fun g => decide (g = s.1)) (N' := F.vis i q) rfl rfl rfl rfl ?_ ?_
  · refine ⟨⟨a1, a2, a3, a4, a5⟩, ?_⟩
    have e1 : (fun g => if pl g = 2 ∧ decide (g = s.1) = true then 6 else pl g) = plu pl s.1 6 := by
      funext k
      unfold plu
      by_cases c : k = s.1
      · rw [if_pos c, if_pos ⟨by rw [c]; exact a3, decide_eq_true c⟩]
      · rw [if_neg c, if_neg fun h' => c (of_decide_eq_true h'.2)]
    rw [e1] at h1
    exact h1
  · have e1 : (F.vis i q).rides.map Bth.b = F.N.rides.map Bth.b := Ngt.setR_nb rfl
    have e2 : (F.vis i (s :: q)).rides.map Bth.b = F.N.rides.map Bth.b := Ngt.setR_nb rfl
    rw [e1, e2]
  · intro r r0 r1
    by_cases c : r = i
    · subst c
      rw [hbo, F.vis_bo hil]
      simp only [Bth.mk.injEq, true_and, and_true]
      rw [List.map_append, List.map_cons] at hqn
      obtain ⟨_, n2, n3⟩ := List.nodup_append.1 hqn
      obtain ⟨n4, _⟩ := List.nodup_cons.1 n2
      rw [List.filter_append, List.filter_cons, if_neg (by simp)]
      congr 1
      · symm
        rw [List.filter_eq_self]
        intro x hx
        have : x.1 ≠ s.1 := n3 x.1 (List.mem_map_of_mem hx) s.1 (List.mem_cons_self ..)
        simp [this]
      · symm
        rw [List.filter_eq_self]
        intro x hx
        have : x.1 ≠ s.1 := fun e' => n4 (by rw [← e']; exact List.mem_map_of_mem hx)
        simp [this]
    · have hne : r.toNat ≠ i.toNat := by omega
      rw [F.vis_bo_ne hne, F.vis_bo_ne hne]
      have hf : (F.N.bo r).queue.filter (fun x => !decide (x.1 = s.1)) = (F.N.bo r).queue := by
        rw [List.filter_eq_self]
        intro x hx
        have hx' : x ∈ ((F.vis i (s :: q)).bo r).queue := by rw [F.vis_bo_ne hne]; exact hx
        obtain ⟨b1, b2, b3, b4, b5⟩ := h.qe r r0 r1 x hx'
        have : x.1 ≠ s.1 := fun e' => by
          rw [e'] at b4
          have b4 : gt (wn G s.1) (F.N.pa s.1).wish = r := b4
          have a4 : gt (wn G s.1) (F.N.pa s.1).wish = i := a4
          omega
        simp [this]
      rw [hf]

theorem Mo.vis_cons {F : Fl} {s : Int × Int} {q : List (Int × Int)} {i : Int} (h : Mo G (F.vis i (s :: q))) : Mo G (F.vis i q) := by
  refine h.keep rfl ?_ rfl rfl rfl (Int.le_refl _)
  have e1 : (F.vis i q).takesL = F.N.takesL := Ngt.setR_takesL rfl
  have e2 : (F.vis i (s :: q)).takesL = F.N.takesL := Ngt.setR_takesL rfl
  rw [e1, e2]

theorem Fm.go (hv : Val w B G) {i : Int} (i0 : 0 ≤ i) (i1 : i < B.length) {t : Int} : ∀ (q : List (Int × Int)) (F : Fl) (S : Pl) (pl : Int → Int), Fm w B G i q F S pl t →
    FillOK i q F ∧ ∃ pl', Fm w B G i [] (fillS i q F) (fillR i (q.map Prod.fst) F.seats S).1 pl' t ∧ (fillR i (q.map Prod.fst) F.seats S).2 = (fillS i q F).seats ∧ ∀ g : Int, 0 ≤ g → g < G.length → (pl' g = 0 ↔ pl g = 0)
  | [], F, S, pl, h => ⟨trivial, pl, h, rfl, fun _ _ _ => Iff.rfl⟩
  | s :: q, F, S, pl, h => by
    obtain ⟨⟨g0, g1, hp, hwi, hsi⟩, hr1⟩ := h.r.first i0 i1
    obtain ⟨g, c⟩ := s
    simp only at g0 g1 hp hwi hsi hr1
    subst hsi
    have hr := h.r.gr g g0 g1
    have hnr : F.N.rides.length = B.length := by
      have := h.r.nr
      unfold Fl.vis Ngt.setR at this
      simpa using this
    have hnp : F.N.parties.length = G.length := h.r.np
    have hil : i.toNat < F.N.rides.length := by omega
    have hgl : g.toNat < F.N.parties.length := by omega
    have hbo := F.vis_bo (q := (g, (S.gu g).since) :: q) hil
    have hbt : S.bt i = (F.N.bo i).b := by rw [h.r.bt_eq i0 i1, hbo]
    have hgr : S.gr g = (F.N.pa g).g := h.r.gr_eq g0 g1
    have hbv := h.r.bv hv i0 i1
    rw [hbo] at hbv
    simp only at hbv
    have hgv : _ ∧ (1 ≤ (F.N.pa g).g.size ∧ (F.N.pa g).g.size ≤ 40) ∧ _ := h.r.gv hv g0 g1
    have hpu : 0 ≤ (F.N.pa g).purse ∧ (F.N.pa g).purse ≤ 600000 := h.m.purse hv g
    have hta : 0 ≤ (F.N.bo i).takes ∧ (F.N.bo i).takes ≤ 600000 := by have := h.m.take hv i; rw [hbo] at this; exact this
    have htk : (S.gu g).tokens = (F.N.pa g).purse := hr.tk
    have hvn := hv.n
    have hcost : F.N.cost i (g, (S.gu g).since) = (F.N.pa g).g.size * (F.N.bo i).b.price := rfl
    have hc0 := Int.mul_nonneg (show 0 ≤ (F.N.pa g).g.size by omega) hbv.2.1.1
    have hbad : S.bad i g = F.bad i (g, (S.gu g).since) := by
      unfold Pl.bad Fl.bad
      rw [hbt, hgr, htk, hcost]
    have hfl : (decide ((S.gr g).size ≤ F.seats)) = !F.full (g, (S.gu g).since) := by
      unfold Fl.full
      rw [hgr]
      show decide ((F.N.pa g).g.size ≤ F.seats) = !decide (F.seats < (F.N.pa g).g.size)
      by_cases c' : F.seats < (F.N.pa g).g.size
      · rw [decide_eq_true c', decide_eq_false (by omega)]; rfl
      · rw [decide_eq_false c', decide_eq_true (by omega)]; rfl
    have hwish : (F.N.pa g).wish < (wn G g).length := (hr.c2 hp).2.2.1
    have hwish0 : 0 ≤ (F.N.pa g).wish := hr.w0
    have hwt : (S.gr g).wants = wn G g := h.r.sgw g
    have hsw : (S.gu g).want = (F.N.pa g).wish := (hr.c2 hp).2.1
    have hvl : F.N.visits.length ≤ 4000000000 := by have := h.r.vlen hv h.m; exact Nat.le_trans this (by omega)
    have hdne : ∀ M : Ngt, M.parties.length = F.N.parties.length → M.visits = F.N.visits → (M.pa g).wish = (F.N.pa g).wish → (M.pa g).g = (F.N.pa g).g → M.Dne g := fun M e1 e2 e3 e4 => by
      have ew : (F.N.pa g).g.wants = wn G g := h.r.pw g0 g1
      exact ⟨g0, by omega, by rw [e3]; exact hwish0, by rw [e3, e4, ew]; exact hwish, by rw [e4, ew]; have := hv.wlen g; omega, by rw [e2]; exact hvl⟩
    have hstl : F.stay.length + ((g, (S.gu g).since) :: q).length ≤ 60 := by
      have := h.r.qlen i
      rw [hbo] at this
      have this : (F.stay ++ (g, (S.gu g).since) :: q).length ≤ G.length := this
      rw [List.length_append] at this
      omega
    have hawl : F.away.length ≤ 60 := by
      have := nodup_range_len G.length F.away h.r.un fun x hx => by have := h.r.ue x hx; omega
      omega
    have honl : (F.N.bo i).on.length ≤ 60 := by
      have := h.r.olen i
      rw [hbo] at this
      have this : (F.N.bo i).on.length ≤ G.length := this
      omega
    have hB : FlB i F (g, (S.gu g).since) q := by
      refine ⟨g0, hgl, hil, by show 0 ≤ (F.N.pa g).g.size ∧ (F.N.pa g).g.size ≤ 1000; omega, by omega, ?_, ?_, ?_, by omega, by omega, ?_⟩
      · have := h.s; have := h.s0; omega
      · show _ ≤ (F.N.pa g).purse ∧ (F.N.pa g).purse ≤ _; omega
      · omega
      · simp only [List.length_cons] at hstl; omega
    have hb6 : (F.N.bo i).b = (F.N.bo i).b := rfl
    have hp7 : ∀ (p : Int → Int), (∀ k : Int, 0 ≤ k → k < G.length → pl k ≤ 4 ∨ pl k = 7) → ∀ x : Int, (x ≤ 4 ∨ x = 7) → (∀ k, k ≠ g → p k = pl k) → p g = x → ∀ k : Int, 0 ≤ k → k < G.length → p k ≤ 4 ∨ p k = 7 := fun p h1 x hx h2 h3 k k0 k1 => by
      by_cases c' : k = g
      · rw [c', h3]; exact hx
      · rw [h2 k c']; exact h1 k k0 k1
    rw [List.map_cons]
    by_cases cb : F.bad i (g, (S.gu g).since) = true
    · -- given up
      have h2 := (hr1.leaves hv g0 g1 plu_same false).go hv g0 g1 plu_same
      have m2 := h.m.vis_cons.done h.r.t0 g0 g1 (c := (S.gu g).since) false hr.w0
      have e1 : plu (plu (plu pl g 6) g 5) g 7 = plu pl g 7 := by
        funext k; unfold plu; split <;> rfl
      rw [e1] at h2
      have hF : Fm w B G i q (F.out (g, (S.gu g).since)) (S.leave g false) (plu pl g 7) t := by
        refine ⟨?_, m2, h.tk, h.t1, h.s, h.s0, h.so, hp7 _ h.p 7 (.inr rfl) (fun k hk => plu_ne hk) plu_same⟩
        exact h2
      obtain ⟨q1, pl', q2, q3, q4⟩ := Fm.go hv i0 i1 q _ _ _ hF
      refine ⟨⟨hB, fun _ => ⟨hdne F.N rfl rfl rfl rfl, q1⟩, (fun c' => by rw [cb] at c'; cases c'), fun c' => by rw [cb] at c'; cases c'⟩, pl', ?_, ?_, fun k k0 k1 => ?_⟩
      · rw [fillS, if_pos cb, fillR, if_pos (by rw [hbad]; exact cb)]
        exact q2
      · rw [fillS, if_pos cb, fillR, if_pos (by rw [hbad]; exact cb)]
        exact q3
      · rw [q4 k k0 k1]
        by_cases c' : k = g
        · rw [c', plu_same]; omega
        · rw [plu_ne c']
    · have cb' : F.bad i (g, (S.gu g).since) = false := by simpa using cb
      by_cases cf : F.full (g, (S.gu g).since) = true
      · have hns : ¬ (S.gr g).size ≤ F.seats := by rw [cf] at hfl; exact of_decide_eq_false hfl
        by_cases cl : (F.N.bo i).b.fill = true
        · have hF : Fm w B G i q (F.keep (g, (S.gu g).since)) S pl t := by
            refine ⟨?_, ?_, h.tk, h.t1, h.s, h.s0, h.so, h.p⟩
            · rw [F.vis_keep]; exact h.r
            · rw [F.vis_keep]; exact h.m
          obtain ⟨q1, pl', q2, q3, q4⟩ := Fm.go hv i0 i1 q _ _ _ hF
          refine ⟨⟨hB, fun c' => absurd c' cb, fun _ _ _ => q1, fun _ c' => by rw [cf] at c'; cases c'⟩, pl', ?_, ?_, q4⟩
          · rw [fillS, if_neg cb, if_pos cf, if_pos cl, fillR, if_neg (by rw [hbad]; exact cb), if_neg hns, if_pos (by rw [hbt]; exact cl)]
            exact q2
          · rw [fillS, if_neg cb, if_pos cf, if_pos cl, fillR, if_neg (by rw [hbad]; exact cb), if_neg hns, if_pos (by rw [hbt]; exact cl)]
            exact q3
        · refine ⟨⟨hB, fun c' => absurd c' cb, fun _ _ c' => absurd c' cl, fun _ c' => by rw [cf] at c'; cases c'⟩, pl, ?_, ?_, fun _ _ _ => Iff.rfl⟩
          · rw [fillS, if_neg cb, if_pos cf, if_neg cl, fillR, if_neg (by rw [hbad]; exact cb), if_neg hns, if_neg (by rw [hbt]; exact cl)]
            have e1 : ({ F with stay := F.stay ++ (g, (S.gu g).since) :: q } : Fl).vis i [] = F.vis i ((g, (S.gu g).since) :: q) := by
              unfold Fl.vis
              simp only [List.append_nil]
            exact ⟨by rw [e1]; exact h.r, by rw [e1]; exact h.m, h.tk, h.t1, h.s, h.s0, h.so, h.p⟩
          · rw [fillS, if_neg cb, if_pos cf, if_neg cl, fillR, if_neg (by rw [hbad]; exact cb), if_neg hns, if_neg (by rw [hbt]; exact cl)]
      · have cf' : F.full (g, (S.gu g).since) = false := by simpa using cf
        have hsz : (S.gr g).size ≤ F.seats := by rw [cf'] at hfl; exact of_decide_eq_true hfl
        have hcp : (F.N.pa g).g.size * (F.N.bo i).b.price ≤ (F.N.pa g).purse := by
          unfold Fl.bad at cb'
          rw [Bool.or_eq_false_iff] at cb'
          have this : ¬ (F.N.pa g).purse < (F.N.pa g).g.size * (F.N.bo i).b.price := of_decide_eq_false cb'.2
          omega
        have h2 := hr1.leaves hv g0 g1 plu_same true
        have m2 := h.m.vis_cons.done h.r.t0 g0 g1 (c := (S.gu g).since) true hr.w0
        have hgx : (((F.vis i q).done (g, (S.gu g).since) true).pa g) = { F.N.pa g with wish := (F.N.pa g).wish + 1 } := by
          show (F.N.setP g _).pa g = _
          rw [Ngt.pa_setP hgl, if_pos rfl]
          rfl
        have hpr : S.price g = (F.N.pa g).g.size * (F.N.bo i).b.price := by
          unfold Pl.price
          rw [hwt, hsw, hwi, hbt, hgr, Int.mul_comm]
        have h3 := h2.boards g0 g1 i0 i1 plu_same (by rw [hgx]; show gt (wn G g) ((F.N.pa g).wish + 1 - 1) = i; rw [show (F.N.pa g).wish + 1 - 1 = (F.N.pa g).wish by omega]; exact hwi) (by rw [hgx]; show 1 ≤ (F.N.pa g).wish + 1; omega) (S.price g) { S.gu g with st := 3, since := S.now, tokens := (S.gu g).tokens - S.price g } rfl
        have m3 := m2.board (i := i) (g := g) (c := S.price g) i0 (by show i < (F.vis i q).rides.length; unfold Fl.vis Ngt.setR; simp only [List.length_set]; omega) g0 g1 (by rw [hpr]; exact hc0) (by rw [hgx, hpr]; exact hcp)
        have e1 : plu (plu (plu pl g 6) g 5) g 3 = plu pl g 3 := by
          funext k; unfold plu; split <;> rfl
        rw [e1] at h3
        have eN : (F.ride i (g, (S.gu g).since)).vis i q = ((F.vis i q).done (g, (S.gu g).since) true).board i g (S.price g) := by
          rw [F.vis_ride q hgl hil, hpr]
          rfl
        have eS : S.leave g true = ((S.unq g true).setG g { S.gu g with st := 3, since := S.now, tokens := (S.gu g).tokens - S.price g }).setT i (gt (S.unq g true).takes i + S.price g) := by
          unfold Pl.leave
          rw [if_pos rfl, hwt, hsw, hwi]
          rfl
        have hbo3 : ((F.ride i (g, (S.gu g).since)).N.bo i) = { F.N.bo i with takes := (F.N.bo i).takes + F.N.cost i (g, (S.gu g).since), on := (F.N.bo i).on ++ [g] } := by
          show (F.N.setR i _).bo i = _
          rw [Ngt.bo_setR hil, if_pos rfl]
        have hF : Fm w B G i q (F.ride i (g, (S.gu g).since)) (S.leave g true) (plu pl g 3) t := by
          have hsz2 : (F.N.pa g).g.size ≤ F.seats := by rw [← hgr]; exact hsz
          have hs := h.s
          refine ⟨by rw [eN, eS]; exact h3, by rw [eN]; exact m3, h.tk, h.t1, ?_, ?_, ?_, hp7 _ h.p 3 (.inl (by omega)) (fun k hk => plu_ne hk) plu_same⟩
          · rw [hbo3]
            show F.seats - (F.N.pa g).g.size ≤ (F.N.bo i).b.seats
            omega
          · show 0 ≤ F.seats - (F.N.pa g).g.size
            omega
          · rw [hbo3]
            show F.seats - (F.N.pa g).g.size < (F.N.bo i).b.seats ↔ (F.N.bo i).on ++ [g] ≠ []
            exact ⟨fun _ => by simp, fun _ => by omega⟩
        obtain ⟨q1, pl', q2, q3, q4⟩ := Fm.go hv i0 i1 q _ _ _ hF
        have hse : (F.ride i (g, (S.gu g).since)).seats = F.seats - (S.gr g).size := by rw [hgr]; rfl
        refine ⟨⟨hB, fun c' => absurd c' cb, (fun _ c' => by rw [cf'] at c'; cases c'), fun _ _ => ⟨?_, q1⟩⟩, pl', ?_, ?_, fun k k0 k1 => ?_⟩
        · have e2 : ((F.N.gets i (g, (S.gu g).since)).pa g) = { F.N.pa g with purse := (F.N.pa g).purse - F.N.cost i (g, (S.gu g).since) } := by
            show (F.N.setP g _).pa g = _
            rw [Ngt.pa_setP hgl, if_pos rfl]
          exact hdne _ (List.length_set ..) rfl (by rw [e2]) (by rw [e2])
        · rw [fillS, if_neg cb, if_neg cf, fillR, if_neg (by rw [hbad]; exact cb), if_pos hsz, ← hse]
          exact q2
        · rw [fillS, if_neg cb, if_neg cf, fillR, if_neg (by rw [hbad]; exact cb), if_pos hsz, ← hse]
          exact q3
        · rw [q4 k k0 k1]
          by_cases c' : k = g
          · rw [c', plu_same]; omega
          · rw [plu_ne c']

theorem Rl.begin_ (h : Rl w B G 1 1 N S pl [] (-1)) (hv : Val w B G) (m : Mo G N) (ht : N.tick ≤ 4000) (hreg : ∀ g : Int, 0 ≤ g → g < G.length → pl g ≤ 4) {i : Int} (i0 : 0 ≤ i) (i1 : i < B.length) :
    BegOK N i ∧ ∃ pl', Rl w B G 1 1 (N.begin i) (S.begin i) pl' [] (-1) ∧ Mo G (N.begin i) ∧ (N.begin i).tick = N.tick ∧ ∀ g : Int, 0 ≤ g → g < G.length → pl' g ≤ 4 ∧ (pl' g = 0 ↔ pl g = 0) := by
  have hnr := h.nr
  have hil : i.toNat < N.rides.length := by omega
  have hvn := hv.n
  obtain ⟨re1, re2, re3⟩ := h.re i i0 i1
  obtain ⟨rb1, rb2, rb3, rb4, rb5⟩ := h.rb i i0 i1
  have rb3 := rb3 (by omega)
  have hbt := h.bt_eq i0 i1
  have hbv := h.bv hv i0 i1
  have harr : arr w G N [] i = [] := by unfold arr; split <;> rfl
  have hqu : S.qu i = (N.bo i).queue.map Prod.fst := by
    have h1 := h.qu i i0 i1
    rw [harr, List.append_nil] at h1
    rw [← h1, eq_comm, List.filter_eq_self]
    intro k hk
    obtain ⟨a1, a2, _⟩ := h.ql i i0 i1 k hk
    have := hreg k a1 a2
    exact decide_eq_true (by omega)
  have hql := h.qlen i
  have haw := fillS_away i (N.bo i).queue (N.fl0 i)
  have haw0 : (N.fl0 i).away.length = 0 := rfl
  have hgo : S.goesOn i = (decide (0 < (N.bo i).on.length) || (decide (0 ≤ (N.bo i).ended) && decide (N.tick - (N.bo i).ended < (N.bo i).b.pause))) := by
    unfold Pl.goesOn
    rw [rb3, re1, hbt, h.tk]
    congr 1
    by_cases c : (N.bo i).on = []
    · rw [if_pos c, c]; rfl
    · rw [if_neg c, decide_eq_true rb1, decide_eq_true (List.length_pos_iff.2 c)]
  by_cases hsh : N.shut i = true
  · refine ⟨⟨by omega, ⟨h.t0, by omega⟩, (fun c => by rw [hsh] at c; cases c), by omega, ?_, (fun c => by rw [hsh] at c; cases c)⟩, pl, ?_, ?_, ?_, fun g g0 g1 => ⟨hreg g g0 g1, Iff.rfl⟩⟩
    · show (fillS i (N.bo i).queue (N.fl0 i)).away.length ≤ _
      omega
    · rw [Ngt.begin, if_pos hsh]
      unfold Pl.begin
      by_cases hg : S.goesOn i = true
      · rw [if_pos hg]; exact h
      · rw [if_neg hg]
        have hq0 : (N.bo i).queue = [] := by
          unfold Ngt.shut at hsh
          rw [hgo] at hg
          have : (N.bo i).queue.length = 0 := by
            simp only [Bool.or_eq_true, decide_eq_true_eq, Bool.and_eq_true, not_or] at hsh hg
            omega
          exact List.length_eq_zero_iff.1 this
        rw [hqu, hq0]
        show Rl w B G 1 1 N (if (S.bt i).seats < (S.bt i).seats then _ else S) pl [] (-1)
        rw [if_neg (by omega)]
        exact h
    · rw [Ngt.begin, if_pos hsh]; exact m
    · rw [Ngt.begin, if_pos hsh]
  · have hsh' : N.shut i = false := by simpa using hsh
    have hon : (N.bo i).on = [] := by
      unfold Ngt.shut at hsh'
      rw [Bool.or_eq_false_iff] at hsh'
      have := of_decide_eq_false hsh'.1
      exact List.length_eq_zero_iff.1 (by omega)
    have hg : ¬ S.goesOn i = true := by
      rw [hgo]
      unfold Ngt.shut at hsh'
      rw [Bool.or_eq_false_iff, Bool.or_eq_false_iff] at hsh'
      rw [hsh'.1, hsh'.2.1]
      simp
    have hvis : (N.fl0 i).vis i (N.bo i).queue = N := by
      unfold Fl.vis Ngt.fl0
      simp only [List.nil_append]
      rw [Ngt.bo_setR hil, if_pos rfl, Ngt.setR_setR]
      exact N.setR_self i
    have hbo0 : (N.fl0 i).N.bo i = { N.bo i with queue := [] } := by
      show (N.setR i _).bo i = _
      rw [Ngt.bo_setR hil, if_pos rfl]
    have h0 : Rl w B G 1 1 N S pl [] i := by
      refine { h with rb := fun r r0 r1 => ?_ }
      obtain ⟨a1, a2, a3, a4, a5⟩ := h.rb r r0 r1
      refine ⟨a1, a2, fun _ => a3 (by omega), fun _ => a4 (by omega), fun e' => ?_⟩
      rw [e', rb3, if_pos hon]
    have hF : Fm w B G i (N.bo i).queue (N.fl0 i) S pl N.tick := by
      refine ⟨by rw [hvis]; exact h0, by rw [hvis]; exact m, rfl, ht, ?_, ?_, ?_, fun g g0 g1 => .inl (hreg g g0 g1)⟩
      · rw [hbo0]; exact Int.le_refl _
      · show 0 ≤ (N.bo i).b.seats; omega
      · rw [hbo0]
        show (N.bo i).b.seats < (N.bo i).b.seats ↔ (N.bo i).on ≠ []
        rw [hon]
        exact ⟨fun h' => absurd h' (Int.lt_irrefl _), fun h' => absurd rfl h'⟩
    obtain ⟨q1, pl', q2, q3, q4⟩ := Fm.go hv i0 i1 _ _ _ _ hF
    change Fm w B G i [] (N.fl i) _ pl' N.tick at q2
    change _ = (N.fl i).seats at q3
    have hes : (N.fl0 i).seats = (N.bo i).b.seats := rfl
    rw [hes] at q2 q3
    have hback : (N.fl i).vis i [] = (N.fl i).back i := by
      unfold Fl.vis Fl.back
      rw [List.append_nil]
    have hSb : S.begin i = if (N.fl i).seats < (N.bo i).b.seats then (fillR i ((N.bo i).queue.map Prod.fst) (N.bo i).b.seats S).1.setB i S.now else (fillR i ((N.bo i).queue.map Prod.fst) (N.bo i).b.seats S).1 := by
      unfold Pl.begin
      rw [if_neg hg, hqu, hbt, q3]
    generalize (fillR i ((N.bo i).queue.map Prod.fst) (N.bo i).b.seats S).1 = S1 at *
    have qr := q2.r
    have qm := q2.m
    rw [hback] at qr qm
    have hbt2 : ((N.fl i).back i).tick = N.tick := q2.tk
    obtain ⟨r1, pl2, r2, r3, r4, r5, r7⟩ := Rl.afterL hv (by omega) (N.fl i).away _ _ qr qm (by rw [hbt2]; omega)
    change Rl w B G 1 1 (N.gone1 i) S1 pl2 [] i at r2
    change Mo G (N.gone1 i) at r3
    change (N.gone1 i).tick = _ at r7
    rw [hbt2] at r7
    have hnrf : (N.fl i).N.rides.length = B.length := by
      have := q2.r.nr
      unfold Fl.vis Ngt.setR at this
      simpa using this
    have hbof : ((N.fl i).back i).bo i = { (N.fl i).N.bo i with queue := (N.fl i).stay } := by
      unfold Fl.back
      rw [Ngt.bo_setR (by omega), if_pos rfl]
    have hnext : ∀ (L : List Int) (M : Ngt), ((L.foldl Ngt.next M).bo i).on = (M.bo i).on ∧ ((L.foldl Ngt.next M).bo i).b = (M.bo i).b := fun L => by
      induction L with
      | nil => intro M; exact ⟨rfl, rfl⟩
      | cons a L ih =>
        intro M
        rw [List.foldl_cons]
        obtain ⟨i1', i2'⟩ := ih (M.next a)
        have : ((M.next a).bo i).on = (M.bo i).on ∧ ((M.next a).bo i).b = (M.bo i).b := by
          unfold Ngt.next
          split
          · exact ⟨rfl, rfl⟩
          · split
            · unfold Ngt.arrive
              have key : ∀ (K : Ngt) (j : Int) (Q : List (Int × Int)), ((K.setR j { K.bo j with queue := Q }).bo i).on = (K.bo i).on ∧ ((K.setR j { K.bo j with queue := Q }).bo i).b = (K.bo i).b := fun K j Q => by
                by_cases hj : j.toNat < K.rides.length
                · rw [Ngt.bo_setR hj]
                  by_cases c : i.toNat = j.toNat
                  · rw [if_pos c]
                    have : K.bo i = K.bo j := by unfold Ngt.bo; rw [c]
                    rw [this]
                    exact ⟨rfl, rfl⟩
                  · rw [if_neg c]
                    exact ⟨rfl, rfl⟩
                · have : K.setR j { K.bo j with queue := Q } = K := by
                    unfold Ngt.setR
                    rw [List.set_eq_of_length_le (by omega)]
                  rw [this]
                  exact ⟨rfl, rfl⟩
              exact key (M.setP a _) _ _
            · exact ⟨rfl, rfl⟩
        rw [i1', i2', this.1, this.2]
        exact ⟨rfl, rfl⟩
    obtain ⟨on1, on2⟩ := hnext (N.fl i).away ((N.fl i).back i)
    change ((N.gone1 i).bo i).on = _ at on1
    change ((N.gone1 i).bo i).b = _ at on2
    rw [hbof] at on1 on2
    have hbb2 : ((N.fl i).N.bo i).b = (N.bo i).b := by
      have e1 := r2.bb i0 i1
      have e2 := h.bb i0 i1
      rw [on2] at e1
      rw [e2]
      exact e1
    have hso := q2.so
    rw [hbb2] at hso
    have hlen1 : i.toNat < (N.gone1 i).rides.length := by rw [r2.nr]; omega
    have hfin : ∀ g : Int, 0 ≤ g → g < G.length → pl2 g ≤ 4 ∧ (pl2 g = 0 ↔ pl g = 0) := fun g g0 g1 => by
      have e1 := q4 g g0 g1
      by_cases c : g ∈ (N.fl i).away
      · have h7 := (q2.r.ue g c).2.2
        have := r5 g c
        omega
      · rw [r4 g c]
        have := q2.p g g0 g1
        have h7 : pl' g ≠ 7 := fun h7 => c (q2.r.uc g g0 g1 h7)
        omega
    refine ⟨⟨by omega, ⟨h.t0, by omega⟩, fun _ => q1, by omega, ?_, fun _ => r1⟩, pl2, ?_, ?_, ?_, hfin⟩
    · show (fillS i (N.bo i).queue (N.fl0 i)).away.length ≤ _
      omega
    · rw [hSb, Ngt.begin, if_neg hsh, Ngt.start]
      by_cases c : 0 < ((N.gone1 i).bo i).on.length
      · have c2 : ((N.fl i).N.bo i).on ≠ [] := by
          rw [on1] at c
          exact List.length_pos_iff.1 c
        rw [if_pos c, if_pos (hso.2 c2)]
        have hbo : ∀ r : Int, 0 ≤ r → ((N.gone1 i).setR i { (N.gone1 i).bo i with begun := (N.gone1 i).tick }).bo r = if r = i then { (N.gone1 i).bo r with begun := (N.gone1 i).tick } else (N.gone1 i).bo r := fun r r0 => by
          rw [Ngt.bo_setR hlen1]
          simp only [toNat_inj r0 i0]
          by_cases e' : r = i
          · rw [if_pos e', if_pos e', e']
          · rw [if_neg e', if_neg e']
        have hboo : ∀ r : Int, 0 ≤ r → (((N.gone1 i).setR i { (N.gone1 i).bo i with begun := (N.gone1 i).tick }).bo r).queue = ((N.gone1 i).bo r).queue ∧ (((N.gone1 i).setR i { (N.gone1 i).bo i with begun := (N.gone1 i).tick }).bo r).on = ((N.gone1 i).bo r).on ∧ (((N.gone1 i).setR i { (N.gone1 i).bo i with begun := (N.gone1 i).tick }).bo r).ended = ((N.gone1 i).bo r).ended ∧ (((N.gone1 i).setR i { (N.gone1 i).bo i with begun := (N.gone1 i).tick }).bo r).takes = ((N.gone1 i).bo r).takes ∧ (((N.gone1 i).setR i { (N.gone1 i).bo i with begun := (N.gone1 i).tick }).bo r).line = ((N.gone1 i).bo r).line ∧ (((N.gone1 i).setR i { (N.gone1 i).bo i with begun := (N.gone1 i).tick }).bo r).b = ((N.gone1 i).bo r).b := fun r r0 => by
          rw [hbo r r0]
          split <;> exact ⟨rfl, rfl, rfl, rfl, rfl, rfl⟩
        have hneg : ∀ (M : Ngt) (r : Int), ¬ 0 ≤ r → M.bo r = M.bo 0 := fun M r hr => by unfold Ngt.bo; rw [show r.toNat = (0 : Int).toNat by omega]
        refine { nw := r2.nw, nb := (Ngt.setR_nb (N := N.gone1 i) (i := i) (r := { (N.gone1 i).bo i with begun := (N.gone1 i).tick }) rfl).trans r2.nb, ng := r2.ng, sw := r2.sw, sb := r2.sb, sg := r2.sg, lg := r2.lg, lh := r2.lh, lq := r2.lq, lb := (List.length_set ..).trans r2.lb, le := r2.le, lt := r2.lt, ll := r2.ll, tk := r2.tk, t0 := r2.t0, vs := r2.vs, gr := r2.gr, wk := r2.wk, qu := ?_, ql := r2.ql, qe := ?_, qn := ?_, qc := ?_, oe := ?_, on := ?_, oc := ?_, re := ?_, rb := ?_, rt := ?_, ue := r2.ue, un := r2.un, uc := r2.uc }
        · intro r r0 r1'
          rw [(hboo r r0).1]
          exact r2.qu r r0 r1'
        · intro r r0 r1'
          rw [(hboo r r0).1]
          exact r2.qe r r0 r1'
        · intro r r0 r1'
          rw [(hboo r r0).1]
          exact r2.qn r r0 r1'
        · intro k k0 k1 hk
          have hm := r2.qc k k0 k1 hk
          show _ ∈ (((N.gone1 i).setR i _).bo (gt (wn G k) ((N.gone1 i).pa k).wish)).queue
          by_cases hr : 0 ≤ gt (wn G k) ((N.gone1 i).pa k).wish
          · rw [(hboo _ hr).1]; exact hm
          · rw [hneg _ _ hr] at hm ⊢
            rw [(hboo 0 (by omega)).1]; exact hm
        · intro r r0 r1'
          rw [(hboo r r0).2.1]
          exact r2.oe r r0 r1'
        · intro r r0 r1'
          rw [(hboo r r0).2.1]
          exact r2.on r r0 r1'
        · intro k k0 k1 hk
          have hm := r2.oc k k0 k1 hk
          show _ ∈ (((N.gone1 i).setR i _).bo (gt (wn G k) (((N.gone1 i).pa k).wish - 1))).on
          by_cases hr : 0 ≤ gt (wn G k) (((N.gone1 i).pa k).wish - 1)
          · rw [(hboo _ hr).2.1]; exact hm
          · rw [hneg _ _ hr] at hm ⊢
            rw [(hboo 0 (by omega)).2.1]; exact hm
        · intro r r0 r1'
          rw [(hboo r r0).2.2.1]
          exact r2.re r r0 r1'
        · intro r r0 r1'
          obtain ⟨a1, a2, a3, a4, a5⟩ := r2.rb r r0 r1'
          have hgb : gt (S1.setB i S.now).began r = if r = i then S.now else gt S1.began r := by
            unfold Pl.setB gt
            simp only
            rw [getD_setq (by rw [r2.lb]; omega)]
            simp only [toNat_inj r0 i0]
          rw [hbo r r0, hgb]
          by_cases e' : r = i
          · rw [if_pos e', if_pos e']
            have ht0 := r2.t0
            refine ⟨ht0, Int.le_refl _, fun _ => ?_, fun _ _ => ?_, fun e2 => by omega⟩
            · show S.now = if ((N.gone1 i).bo r).on = [] then -1 else (N.gone1 i).tick
              rw [e', on1, if_neg c2, h.tk, r7]
            · show (N.gone1 i).tick + 1 ≤ (N.gone1 i).tick + ((N.gone1 i).bo r).b.cycle
              have := r2.bv hv r0 r1'
              omega
          · rw [if_neg e', if_neg e']
            exact ⟨a1, a2, fun _ => a3 e', fun _ => a4 e', fun e2 => by omega⟩
        · intro r r0 r1'
          rw [(hboo r r0).2.2.2.1, (hboo r r0).2.2.2.2.1]
          exact r2.rt r r0 r1'
      · have c2 : ((N.fl i).N.bo i).on = [] := by
          rw [on1] at c
          have c : ¬ 0 < ((N.fl i).N.bo i).on.length := c
          exact List.length_eq_zero_iff.1 (by omega)
        rw [if_neg c, if_neg fun h' => hso.1 h' c2]
        refine { r2 with rb := fun r r0 r1' => ?_ }
        obtain ⟨a1, a2, a3, a4, a5⟩ := r2.rb r r0 r1'
        by_cases e' : r = i
        · subst e'
          refine ⟨a1, a2, fun _ => ?_, fun _ hne => ?_, fun e2 => by omega⟩
          · rw [on1]
            show gt S1.began r = if ((N.fl r).N.bo r).on = [] then -1 else _
            rw [c2, if_pos rfl]
            exact a5 rfl
          · rw [on1] at hne
            exact absurd c2 hne
        · exact ⟨a1, a2, fun _ => a3 e', fun _ => a4 e', fun e2 => by omega⟩
    · rw [Ngt.begin, if_neg hsh, Ngt.start]
      split
      · exact r3.keep rfl (Ngt.setR_takesL rfl) rfl rfl rfl (Int.le_refl _)
      · exact r3
    · rw [Ngt.begin, if_neg hsh, Ngt.start]
      split
      · exact r7
      · exact r7
end
end Go.Proofs.Ytgcefaikdplbkaa
