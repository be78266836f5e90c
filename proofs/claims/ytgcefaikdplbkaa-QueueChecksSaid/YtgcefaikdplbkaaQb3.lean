/- Steps of both models, side by side: queues. No program in sight. -/
import Derived.Test.YtgcefaikdplbkaaQb2
namespace Go.Proofs.Ytgcefaikdplbkaa
open Go.RowKit

section
variable {w : Int} {B : List BthG} {G : List Grp} {d e : Int} {N : Ngt} {S : Pl} {pl : Int → Int} {up : List Int} {fx : Int}
/-- in the program's model some groups are taken out of their queues -/
theorem Rl.take (h : Rl w B G d e N S pl up fx) (out : Int → Bool) {N' : Ngt} (e1 : N'.walk = N.walk) (e2 : N'.tick = N.tick) (e3 : N'.visits = N.visits) (e4 : N'.parties = N.parties) (e5 : N'.rides.map Bth.b = N.rides.map Bth.b)
    (hb : ∀ r : Int, 0 ≤ r → r < B.length → N'.bo r = { N.bo r with queue := (N.bo r).queue.filter fun x => !out x.1 }) :
    Rl w B G d e N' S (fun g => if pl g = 2 ∧ out g = true then 6 else pl g) up fx := by
  have hpa : ∀ k, N'.pa k = N.pa k := fun k => by unfold Ngt.pa; rw [e4]
  have harr : ∀ r, arr w G N' up r = arr w G N up r := fun r => by unfold arr; simp only [hpa]
  have hp2 : ∀ k, pl k ≠ 2 → (if pl k = 2 ∧ out k = true then 6 else pl k) = pl k := fun k hk => if_neg fun h' => hk h'.1
  have hne6 : ∀ k, (if pl k = 2 ∧ out k = true then 6 else pl k) = 6 ↔ pl k = 6 ∨ (pl k = 2 ∧ out k = true) := fun k => by
    by_cases c : pl k = 2 ∧ out k = true
    · rw [if_pos c]; exact ⟨fun _ => .inr c, fun _ => rfl⟩
    · rw [if_neg c]; exact ⟨.inl, fun h' => h'.elim id fun h' => absurd h' c⟩
  have hcases : ∀ (k p : Int), p ≠ 6 → (if pl k = 2 ∧ out k = true then 6 else pl k) = p → pl k = p ∧ (p = 2 → out k = false) := fun k p hp hk => by
    by_cases c : pl k = 2 ∧ out k = true
    · rw [if_pos c] at hk; omega
    · rw [if_neg c] at hk
      refine ⟨hk, fun h2 => ?_⟩
      cases ho : out k with
      | false => rfl
      | true => exact absurd ⟨by omega, ho⟩ c
  refine { nw := by rw [e1]; exact h.nw, nb := by rw [e5]; exact h.nb, ng := by rw [e4]; exact h.ng, sw := h.sw, sb := h.sb, sg := h.sg, lg := h.lg, lh := h.lh, lq := h.lq, lb := h.lb, le := h.le, lt := h.lt, ll := h.ll, tk := by rw [e2]; exact h.tk, t0 := by rw [e2]; exact h.t0, vs := by rw [e3]; exact h.vs, gr := ?_, wk := ?_, qu := ?_, ql := ?_, qe := ?_, qn := ?_, qc := ?_, oe := ?_, on := ?_, oc := ?_, re := ?_, rb := ?_, rt := ?_, ue := ?_, un := h.un, uc := ?_ }
  · intro k k0 k1
    rw [hpa, e2]
    have hr := h.gr k k0 k1
    by_cases c : pl k = 2 ∧ out k = true
    · rw [if_pos c]
      have h2 := hr.c2 c.1
      refine ⟨hr.w0, hr.w1, hr.tk, fun _ => hr.cm (by omega), ?_, fun h' => by omega, fun h' => by omega, fun h' => by omega, fun h' => by omega, fun h' => by omega, fun h' => by omega, fun _ => h2, fun h' => by omega, by omega⟩
      rcases hr.hm with h' | h'
      · exact .inl h'
      · omega
    · rw [if_neg c]; exact hr
  · intro k k0 k1 hk
    rw [hpa, e2]
    exact h.wk k k0 k1 (hcases k 1 (by omega) hk).1
  · intro r r0 r1
    rw [harr, hb r r0 r1]
    have h1 := h.qu r r0 r1
    have e6 : (S.qu r).filter (fun g => decide ((if pl g = 2 ∧ out g = true then 6 else pl g) ≠ 6)) = ((S.qu r).filter fun g => decide (pl g ≠ 6)).filter fun g => decide (¬ (pl g = 2 ∧ out g = true)) := by
      rw [List.filter_filter]
      apply List.filter_congr
      intro k _
      by_cases c : pl k = 2 ∧ out k = true
      · rw [decide_eq_false (show ¬ (if pl k = 2 ∧ out k = true then (6 : Int) else pl k) ≠ 6 by rw [if_pos c]; simp), decide_eq_false (show ¬ ¬ (pl k = 2 ∧ out k = true) from fun h' => h' c), Bool.false_and]
      · rw [if_neg c, decide_eq_true c, Bool.true_and]
    rw [e6, h1, List.filter_append]
    congr 1
    · show _ = ((N.bo r).queue.filter fun x => !out x.1).map Prod.fst
      have hq := h.qe r r0 r1
      generalize (N.bo r).queue = Q at *
      clear h1 e6
      induction Q with
      | nil => rfl
      | cons x Q ih =>
        have hx := (hq x (List.mem_cons_self ..)).2.2.1
        have ih := ih fun y hy => hq y (List.mem_cons_of_mem _ hy)
        rw [List.map_cons, List.filter_cons, List.filter_cons]
        cases ho : out x.1 with
        | true => rw [if_neg (by simp [hx, ho]), if_neg (by simp)]; exact ih
        | false => rw [if_pos (by simp [ho]), if_pos (by simp), List.map_cons, ih]
    · rw [List.filter_eq_self]
      intro k hk
      refine decide_eq_true fun c => ?_
      unfold arr at hk
      split at hk
      · have := (h.ue k (List.mem_filter.1 hk).1).2.2
        omega
      · cases hk
  · intro r r0 r1 k hk
    obtain ⟨a1, a2, a3⟩ := h.ql r r0 r1 k hk
    refine ⟨a1, a2, fun h6 => ?_⟩
    rw [hpa]
    rcases (hne6 k).1 h6 with h' | h'
    · exact a3 h'
    · have hm : k ∈ (S.qu r).filter fun g => decide (pl g ≠ 6) := List.mem_filter.2 ⟨hk, decide_eq_true (by omega)⟩
      rw [h.qu r r0 r1] at hm
      rcases List.mem_append.1 hm with hm | hm
      · obtain ⟨x, hx, rfl⟩ := List.mem_map.1 hm
        exact (h.qe r r0 r1 x hx).2.2.2.1
      · unfold arr at hm
        split at hm
        · have := (h.ue k (List.mem_filter.1 hm).1).2.2
          omega
        · cases hm
  · intro r r0 r1 x hx
    rw [hb r r0 r1] at hx
    obtain ⟨hx1, hx2⟩ := List.mem_filter.1 hx
    obtain ⟨a1, a2, a3, a4, a5⟩ := h.qe r r0 r1 x hx1
    rw [hpa, if_neg fun h' => by rw [h'.2] at hx2; cases hx2]
    exact ⟨a1, a2, a3, a4, a5⟩
  · intro r r0 r1
    rw [hb r r0 r1]
    exact (h.qn r r0 r1).sublist (List.Sublist.map _ List.filter_sublist)
  · intro k k0 k1 hk
    obtain ⟨h2, h3⟩ := hcases k 2 (by omega) hk
    have hr := h.gr k k0 k1
    have hm := h.qc k k0 k1 h2
    rw [hpa]
    by_cases hrr : 0 ≤ gt (wn G k) (N.pa k).wish ∧ gt (wn G k) (N.pa k).wish < B.length
    · rw [hb _ hrr.1 hrr.2]
      exact List.mem_filter.2 ⟨hm, by show (!out k) = true; rw [h3 rfl]; rfl⟩
    · exfalso
      by_cases hneg : 0 ≤ gt (wn G k) (N.pa k).wish
      · have : N.bo (gt (wn G k) (N.pa k).wish) = Bth.d := by
          unfold Ngt.bo
          have := h.nr
          simp [List.getD, show ¬ (gt (wn G k) (N.pa k).wish).toNat < N.rides.length by omega]
        rw [this] at hm
        cases hm
      · have hb0 : N.bo (gt (wn G k) (N.pa k).wish) = N.bo 0 := by
          unfold Ngt.bo
          rw [show (gt (wn G k) (N.pa k).wish).toNat = (0 : Int).toNat by omega]
        rw [hb0] at hm
        by_cases hm0 : 0 < B.length
        · have := (h.qe 0 (by omega) (by omega) _ hm).2.2.2.1
          simp only at this
          omega
        · have : N.bo 0 = Bth.d := by
            unfold Ngt.bo
            have := h.nr
            simp [List.getD, show ¬ 0 < N.rides.length by omega]
          rw [this] at hm
          cases hm
  · intro r r0 r1 k hk
    rw [hb r r0 r1] at hk
    obtain ⟨a1, a2, a3, a4⟩ := h.oe r r0 r1 k hk
    rw [hpa, hp2 k (by omega)]
    exact ⟨a1, a2, a3, a4⟩
  · intro r r0 r1
    rw [hb r r0 r1]
    exact h.on r r0 r1
  · intro k k0 k1 hk
    obtain ⟨h2, _⟩ := hcases k 3 (by omega) hk
    have hm := h.oc k k0 k1 h2
    rw [hpa]
    by_cases hrr : 0 ≤ gt (wn G k) ((N.pa k).wish - 1) ∧ gt (wn G k) ((N.pa k).wish - 1) < B.length
    · rw [hb _ hrr.1 hrr.2]
      exact hm
    · exfalso
      by_cases hneg : 0 ≤ gt (wn G k) ((N.pa k).wish - 1)
      · have : N.bo (gt (wn G k) ((N.pa k).wish - 1)) = Bth.d := by
          unfold Ngt.bo
          have := h.nr
          simp [List.getD, show ¬ (gt (wn G k) ((N.pa k).wish - 1)).toNat < N.rides.length by omega]
        rw [this] at hm
        cases hm
      · have hb0 : N.bo (gt (wn G k) ((N.pa k).wish - 1)) = N.bo 0 := by
          unfold Ngt.bo
          rw [show (gt (wn G k) ((N.pa k).wish - 1)).toNat = (0 : Int).toNat by omega]
        rw [hb0] at hm
        by_cases hm0 : 0 < B.length
        · have := (h.oe 0 (by omega) (by omega) _ hm).2.2.2
          omega
        · have : N.bo 0 = Bth.d := by
            unfold Ngt.bo
            have := h.nr
            simp [List.getD, show ¬ 0 < N.rides.length by omega]
          rw [this] at hm
          cases hm
  · intro r r0 r1
    rw [hb r r0 r1, e2]
    exact h.re r r0 r1
  · intro r r0 r1
    rw [hb r r0 r1, e2]
    exact h.rb r r0 r1
  · intro r r0 r1
    rw [hb r r0 r1]
    exact h.rt r r0 r1
  · intro k hk
    obtain ⟨a1, a2, a3⟩ := h.ue k hk
    rw [hp2 k (by omega)]
    exact ⟨a1, a2, a3⟩
  · intro k k0 k1 hk
    exact h.uc k k0 k1 (hcases k 7 (by omega) hk).1

theorem Pl.unq_eq (S : Pl) (g : Int) (b : Bool) : S.unq g b = { S with
    queues := S.queues.set (gt (S.gr g).wants (S.gu g).want).toNat ((S.qu (gt (S.gr g).wants (S.gu g).want)).filter fun k => decide (k ≠ g)),
    visits := S.visits ++ [(g, (S.gu g).want, gt (S.gr g).wants (S.gu g).want, b, (S.gu g).since, S.now)] } := rfl
/-- a group leaves its queue -/
theorem Rl.leaves (h : Rl w B G d e N S pl up fx) (hv : Val w B G) {g : Int} (g0 : 0 ≤ g) (g1 : g < G.length) (hp : pl g = 6) (b : Bool) : Rl w B G d e (N.done (g, (S.gu g).since) b) (S.unq g b) (plu pl g 5) up fx := by
  have hr := h.gr g g0 g1
  obtain ⟨h6, h6w, h6l, h6s, h6t⟩ := hr.c6 hp
  have hW : (S.gr g).wants = wn G g := h.sgw g
  have hW2 : (N.pa g).g.wants = wn G g := h.pw g0 g1
  have hgl : g.toNat < N.parties.length := by rw [h.np]; omega
  have hvw := hv.want hr.w0 h6l
  have hpa : ∀ k : Int, 0 ≤ k → (N.done (g, (S.gu g).since) b).pa k = if k = g then { N.pa g with wish := (N.pa g).wish + 1 } else N.pa k := fun k hk => by
    unfold Ngt.done
    rw [Ngt.pa_setP (by exact hgl)]
    simp only [toNat_inj hk g0]
    rfl
  have hbo : ∀ r, (N.done (g, (S.gu g).since) b).bo r = N.bo r := fun r => rfl
  have hpl : ∀ k : Int, k ≠ g → plu pl g 5 k = pl k := fun k hk => plu_ne hk
  have hup : ∀ k ∈ up, k ≠ g := fun k hk c => by have := (h.ue k hk).2.2; rw [c] at this; omega
  have hpk : ∀ k : Int, 0 ≤ k → k ≠ g → (N.done (g, (S.gu g).since) b).pa k = N.pa k := fun k hk c => by rw [hpa k hk, if_neg c]
  have harr : ∀ r, arr w G (N.done (g, (S.gu g).since) b) up r = arr w G N up r := fun r => by
    unfold arr
    split
    · apply List.filter_congr
      intro k hk
      rw [hpk k (h.ue k hk).1 (hup k hk)]
    · rfl
  have hqu : ∀ r : Int, 0 ≤ r → (S.unq g b).qu r = if r = gt (wn G g) (N.pa g).wish then (S.qu r).filter (fun k => decide (k ≠ g)) else S.qu r := fun r r0 => by
    rw [S.unq_eq]
    show (S.queues.set _ _).getD r.toNat [] = _
    rw [hW, h6w, getD_setq (by rw [h.lq]; omega)]
    simp only [toNat_inj r0 hvw.1]
    by_cases c : r = gt (wn G g) (N.pa g).wish
    · rw [if_pos c, if_pos c, ← c]
    · rw [if_neg c, if_neg c]
      rfl
  refine { nw := h.nw, nb := h.nb, ng := (Ngt.done_stat h.stat _ _).2, sw := h.sw, sb := h.sb, sg := h.sg, lg := h.lg, lh := h.lh, lq := by rw [S.unq_eq]; show (S.queues.set _ _).length = _; rw [List.length_set]; exact h.lq, lb := h.lb, le := h.le, lt := h.lt, ll := h.ll, tk := h.tk, t0 := h.t0, vs := ?_, gr := ?_, wk := ?_, qu := ?_, ql := ?_, qe := ?_, qn := h.qn, qc := ?_, oe := ?_, on := h.on, oc := ?_, re := h.re, rb := h.rb, rt := h.rt, ue := ?_, un := h.un, uc := ?_ }
  · show S.visits ++ _ = N.visits ++ _
    rw [h.vs, hW, hW2, h6w, h.tk]
  · intro k k0 k1
    show RG w N.tick (wn G k) _ (S.gu k) (gt S.homes k) _
    rw [hpa k k0]
    by_cases c : k = g
    · subst c
      rw [if_pos rfl, plu_same]
      have hw0 := hr.w0
      refine ⟨by show 0 ≤ (N.pa k).wish + 1; omega, by show (N.pa k).wish + 1 ≤ _; omega, hr.tk, fun _ => hr.cm (by omega), ?_, fun h' => by omega, fun h' => by omega, fun h' => by omega, fun h' => by omega, fun h' => by omega, fun _ => by show (S.gu k).want + 1 = (N.pa k).wish + 1; omega, fun h' => by omega, fun h' => by omega, by omega⟩
      rcases hr.hm with h' | h'
      · exact .inl h'
      · omega
    · rw [if_neg c, hpl k c]
      exact h.gr k k0 k1
  · intro k k0 k1 hk
    by_cases c : k = g
    · subst c; rw [plu_same] at hk; omega
    · rw [hpl k c] at hk
      rw [hpk k k0 c]
      exact h.wk k k0 k1 hk
  · intro r r0 r1
    rw [harr, hbo, hqu r r0, ← h.qu r r0 r1]
    by_cases c : r = gt (wn G g) (N.pa g).wish
    · rw [if_pos c, filter_upd (.inr (by simp)), List.filter_filter]
      apply List.filter_congr
      intro k _
      by_cases c2 : k = g
      · rw [c2, decide_eq_false (show ¬ pl g ≠ 6 from fun h' => h' hp), Bool.false_and]
      · rw [decide_eq_true c2, Bool.and_true]
    · rw [if_neg c, filter_upd (.inr fun hm => c ((h.ql r r0 r1 g hm).2.2 hp).symm)]
  · intro r r0 r1 k hk
    have hk' : k ∈ S.qu r := by
      rw [hqu r r0] at hk
      split at hk
      · exact (List.mem_filter.1 hk).1
      · exact hk
    obtain ⟨a1, a2, a3⟩ := h.ql r r0 r1 k hk'
    refine ⟨a1, a2, fun h6 => ?_⟩
    by_cases c : k = g
    · subst c; rw [plu_same] at h6; omega
    · rw [hpl k c] at h6
      rw [hpk k a1 c]
      exact a3 h6
  · intro r r0 r1 x hx
    obtain ⟨a1, a2, a3, a4, a5⟩ := h.qe r r0 r1 x hx
    have c : x.1 ≠ g := fun c => by rw [c] at a3; omega
    rw [hpl _ c, hpk _ a1 c]
    exact ⟨a1, a2, a3, a4, a5⟩
  · intro k k0 k1 hk
    by_cases c : k = g
    · subst c; rw [plu_same] at hk; omega
    · rw [hpl k c] at hk
      rw [hpk k k0 c]
      exact h.qc k k0 k1 hk
  · intro r r0 r1 k hk
    obtain ⟨a1, a2, a3, a4⟩ := h.oe r r0 r1 k hk
    have c : k ≠ g := fun c => by rw [c] at a3; omega
    rw [hpl k c, hpk k a1 c]
    exact ⟨a1, a2, a3, a4⟩
  · intro k k0 k1 hk
    by_cases c : k = g
    · subst c; rw [plu_same] at hk; omega
    · rw [hpl k c] at hk
      rw [hpk k k0 c]
      exact h.oc k k0 k1 hk
  · intro k hk
    obtain ⟨a1, a2, a3⟩ := h.ue k hk
    rw [hpl k (hup k hk)]
    exact ⟨a1, a2, a3⟩
  · intro k k0 k1 hk
    by_cases c : k = g
    · subst c; rw [plu_same] at hk; omega
    · rw [hpl k c] at hk
      exact h.uc k k0 k1 hk

/-- a group that walks comes to its queue -/
theorem Rl.stands (h : Rl w B G d e N S pl [] fx) (hv : Val w B G) {g : Int} (g0 : 0 ≤ g) (g1 : g < G.length) (hp : pl g = 1) : Rl w B G d e (N.arrive g) (S.stand g) (plu pl g 2) [] fx := by
  have hr := h.gr g g0 g1
  obtain ⟨h1s, h1w, h1l, h1c, h1z, h1a, h1b⟩ := hr.c1 hp
  have hW : (S.gr g).wants = wn G g := h.sgw g
  have hW2 : (N.pa g).g.wants = wn G g := h.pw g0 g1
  have hgl : g.toNat < N.parties.length := by rw [h.np]; omega
  have hgl2 : g.toNat < S.guests.length := by rw [h.lg]; omega
  have hvw := hv.want hr.w0 h1l
  have hpa : ∀ k : Int, 0 ≤ k → (N.arrive g).pa k = if k = g then { N.pa g with comes := -1 } else N.pa k := fun k hk => by
    unfold Ngt.arrive
    show (N.setP g _).pa k = _
    rw [Ngt.pa_setP hgl]
    simp only [toNat_inj hk g0]
  have hbo : ∀ r : Int, 0 ≤ r → (N.arrive g).bo r = if r = gt (wn G g) (N.pa g).wish then { N.bo r with queue := (N.bo r).queue ++ [(g, N.tick)] } else N.bo r := fun r r0 => by
    unfold Ngt.arrive
    rw [Ngt.bo_setR (by show _ < N.rides.length; rw [hW2, h.nr]; omega), hW2]
    simp only [toNat_inj r0 hvw.1]
    by_cases c : r = gt (wn G g) (N.pa g).wish
    · rw [if_pos c, if_pos c, ← c]
    · rw [if_neg c, if_neg c]
      rfl
  have hgu : ∀ k : Int, 0 ≤ k → (S.stand g).gu k = if k = g then { S.gu g with st := 2, since := S.now } else S.gu k := fun k hk => by
    show (S.setG g _).gu k = _
    rw [Pl.gu_setG hgl2]
    simp only [toNat_inj hk g0]
  have hqu : ∀ r : Int, 0 ≤ r → (S.stand g).qu r = S.qu r ++ (if r = gt (wn G g) (N.pa g).wish then [g] else []) := fun r r0 => by
    show (S.queues.set _ _).getD r.toNat [] = _
    rw [hW, h1w, getD_setq (by rw [h.lq]; omega)]
    simp only [toNat_inj r0 hvw.1]
    by_cases c : r = gt (wn G g) (N.pa g).wish
    · rw [if_pos c, if_pos c, ← c]
    · rw [if_neg c, if_neg c, List.append_nil]
      rfl
  have hpl : ∀ k : Int, k ≠ g → plu pl g 2 k = pl k := fun k hk => plu_ne hk
  have hpk : ∀ k : Int, 0 ≤ k → k ≠ g → (N.arrive g).pa k = N.pa k := fun k hk c => by rw [hpa k hk, if_neg c]
  have hwk : ∀ k : Int, 0 ≤ k → ((N.arrive g).pa k).wish = (N.pa k).wish := fun k hk => by
    rw [hpa k hk]
    by_cases c : k = g
    · rw [if_pos c, c]
    · rw [if_neg c]
  have harr : ∀ M r, arr w G M [] r = [] := fun M r => by unfold arr; split <;> rfl
  have hboo : ∀ r : Int, 0 ≤ r → ((N.arrive g).bo r).on = (N.bo r).on ∧ ((N.arrive g).bo r).ended = (N.bo r).ended ∧ ((N.arrive g).bo r).begun = (N.bo r).begun ∧ ((N.arrive g).bo r).b = (N.bo r).b ∧ ((N.arrive g).bo r).takes = (N.bo r).takes ∧ ((N.arrive g).bo r).line = (N.bo r).line := fun r hr' => by
    rw [hbo r hr']
    split <;> exact ⟨rfl, rfl, rfl, rfl, rfl, rfl⟩
  have hboq : ∀ r : Int, 0 ≤ r → ((N.arrive g).bo r).queue = (N.bo r).queue ++ (if r = gt (wn G g) (N.pa g).wish then [(g, N.tick)] else []) := fun r hr' => by
    rw [hbo r hr']
    split
    · rfl
    · rw [List.append_nil]
  refine { nw := h.nw, nb := by rw [N.arrive_nb]; exact h.nb, ng := (N.arrive_stat h.stat g).2, sw := h.sw, sb := h.sb, sg := h.sg, lg := by show (S.guests.set _ _).length = _; rw [List.length_set]; exact h.lg, lh := h.lh, lq := by show (S.queues.set _ _).length = _; rw [List.length_set]; exact h.lq, lb := h.lb, le := h.le, lt := h.lt, ll := h.ll, tk := h.tk, t0 := h.t0, vs := h.vs, gr := ?_, wk := ?_, qu := ?_, ql := ?_, qe := ?_, qn := ?_, qc := ?_, oe := ?_, on := ?_, oc := ?_, re := ?_, rb := ?_, rt := ?_, ue := fun k hk => (by cases hk), un := List.nodup_nil, uc := ?_ }
  · intro k k0 k1
    show RG w N.tick (wn G k) _ _ (gt S.homes k) _
    rw [hpa k k0, hgu k k0]
    by_cases c : k = g
    · subst c
      rw [if_pos rfl, if_pos rfl, plu_same]
      have ht0 := h.t0
      have htk := h.tk
      refine ⟨hr.w0, hr.w1, hr.tk, fun _ => rfl, ?_, fun h' => by omega, fun h' => by omega, fun _ => ⟨rfl, h1w, h1l, ?_, ?_⟩, fun h' => by omega, fun h' => by omega, fun h' => by omega, fun h' => by omega, fun h' => by omega, by omega⟩
      · rcases hr.hm with h' | h'
        · exact .inl h'
        · omega
      · show 0 ≤ S.now
        omega
      · show S.now ≤ N.tick
        omega
    · rw [if_neg c, if_neg c, hpl k c]
      exact h.gr k k0 k1
  · intro k k0 k1 hk
    by_cases c : k = g
    · subst c; rw [plu_same] at hk; omega
    · rw [hpl k c] at hk
      rw [hpk k k0 c]
      exact h.wk k k0 k1 hk
  · intro r r0 r1
    have h1 := h.qu r r0 r1
    rw [harr, List.append_nil] at h1
    rw [harr, List.append_nil, hqu r r0, hboq r r0, List.map_append, List.filter_append, filter_upd (.inl ⟨by omega, by omega⟩), h1]
    congr 1
    split
    · rw [List.filter_cons, if_pos (by rw [plu_same]; rfl)]
      rfl
    · rfl
  · intro r r0 r1 k hk
    rw [hqu r r0] at hk
    rcases List.mem_append.1 hk with hk | hk
    · obtain ⟨a1, a2, a3⟩ := h.ql r r0 r1 k hk
      refine ⟨a1, a2, fun h6 => ?_⟩
      rw [hwk k a1]
      refine a3 ?_
      by_cases c : k = g
      · subst c; rw [plu_same] at h6; omega
      · rwa [hpl k c] at h6
    · split at hk
      · rw [List.mem_singleton.1 hk]
        exact ⟨g0, g1, fun h6 => by rw [plu_same] at h6; omega⟩
      · cases hk
  · intro r r0 r1 x hx
    rw [hboq r r0] at hx
    rcases List.mem_append.1 hx with hx | hx
    · obtain ⟨a1, a2, a3, a4, a5⟩ := h.qe r r0 r1 x hx
      have c : x.1 ≠ g := fun c => by rw [c] at a3; omega
      rw [hpl _ c, hwk _ a1, hgu _ a1, if_neg c]
      exact ⟨a1, a2, a3, a4, a5⟩
    · split at hx
      · rename_i c
        rw [List.mem_singleton.1 hx]
        refine ⟨g0, g1, plu_same, by rw [hwk g g0]; exact c.symm, ?_⟩
        show N.tick = _
        rw [hgu g g0, if_pos rfl]
        exact h.tk.symm
      · cases hx
  · intro r r0 r1
    rw [hboq r r0, List.map_append]
    refine List.nodup_append.2 ⟨h.qn r r0 r1, by split <;> simp, fun a ha b hb => ?_⟩
    split at hb
    · have hb : b = g := by simpa using hb
      obtain ⟨x, hx, rfl⟩ := List.mem_map.1 ha
      rw [hb]
      intro c
      have := (h.qe r r0 r1 x hx).2.2.1
      rw [c] at this
      omega
    · cases hb
  · intro k k0 k1 hk
    rw [hwk k k0, hgu k k0]
    by_cases c : k = g
    · subst c
      rw [hboq _ hvw.1, if_pos rfl, if_pos rfl]
      show (k, S.now) ∈ _
      rw [h.tk]
      simp
    · rw [hpl k c] at hk
      have hlt := (h.gr k k0 k1).c2 hk
      have hv' := hv.want (h.gr k k0 k1).w0 hlt.2.2.1
      rw [if_neg c, hboq _ hv'.1]
      exact List.mem_append_left _ (h.qc k k0 k1 hk)
  · intro r r0 r1 k hk
    rw [(hboo r r0).1] at hk
    obtain ⟨a1, a2, a3, a4⟩ := h.oe r r0 r1 k hk
    have c : k ≠ g := fun c => by rw [c] at a3; omega
    rw [hpl k c, hwk k a1]
    exact ⟨a1, a2, a3, a4⟩
  · intro r r0 r1
    rw [(hboo r r0).1]
    exact h.on r r0 r1
  · intro k k0 k1 hk
    by_cases c : k = g
    · subst c; rw [plu_same] at hk; omega
    · rw [hpl k c] at hk
      rw [hwk k k0]
      have h3 := (h.gr k k0 k1).c3 hk
      have hb3 := (h.gr k k0 k1).w1
      have hv' := hv.want (g := k) (k := (N.pa k).wish - 1) (by omega) (by omega)
      rw [(hboo _ hv'.1).1]
      exact h.oc k k0 k1 hk
  · intro r r0 r1
    rw [(hboo r r0).2.1]
    exact h.re r r0 r1
  · intro r r0 r1
    obtain ⟨b1, b2, b3, b4, b5, b6⟩ := hboo r r0
    rw [b1, b3, b4]
    exact h.rb r r0 r1
  · intro r r0 r1
    obtain ⟨b1, b2, b3, b4, b5, b6⟩ := hboo r r0
    rw [b5, b6]
    exact h.rt r r0 r1
  · intro k k0 k1 hk
    by_cases c : k = g
    · subst c; rw [plu_same] at hk; omega
    · rw [hpl k c] at hk
      exact h.uc k k0 k1 hk
end
end Go.Proofs.Ytgcefaikdplbkaa
