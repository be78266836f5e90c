/- Steps of both models, side by side: a group goes on. No program in sight. -/
import Derived.Test.YtgcefaikdplbkaaQb1
namespace Go.Proofs.Ytgcefaikdplbkaa
open Go.RowKit

/-! ### What a step changes -/
def Pl.onx (S : Pl) (g : Int) : Gs := ⟨if (S.gr g).wants.length ≤ (S.gu g).want + 1 then 4 else if S.walk = 0 then 2 else 1, (S.gu g).want + 1, S.now, (S.gu g).tokens⟩
theorem Pl.gu_setG {S : Pl} {g k : Int} {x : Gs} (hg : g.toNat < S.guests.length) : (S.setG g x).gu k = if k.toNat = g.toNat then x else S.gu k := getD_setq hg
theorem Pl.on_eq (S : Pl) {g : Int} (hg : g.toNat < S.guests.length) : S.on g = { S with
    guests := S.guests.set g.toNat (S.onx g),
    queues := if ¬ ((S.gr g).wants.length : Int) ≤ (S.gu g).want + 1 ∧ S.walk = 0 then S.queues.set (gt (S.gr g).wants ((S.gu g).want + 1)).toNat (S.qu (gt (S.gr g).wants ((S.gu g).want + 1)) ++ [g]) else S.queues,
    homes := if ((S.gr g).wants.length : Int) ≤ (S.gu g).want + 1 then S.homes.set g.toNat S.now else S.homes } := by
  unfold Pl.on Pl.onx
  by_cases h1 : ((S.gr g).wants.length : Int) ≤ (S.gu g).want + 1
  · rw [if_pos h1, if_pos h1, if_neg (by simp [h1]), if_pos h1]
    rfl
  · rw [if_neg h1, if_neg h1, if_neg h1]
    by_cases h2 : S.walk = 0
    · rw [if_pos h2, if_pos h2, if_pos ⟨h1, h2⟩]
      unfold Pl.stand
      rw [Pl.gu_setG hg, if_pos rfl]
      unfold Pl.setG Pl.setQ
      simp only [List.set_set]
      rfl
    · rw [if_neg h2, if_neg h2, if_neg (fun h => h2 h.2)]
      rfl
def Ngt.nx (N : Ngt) (g : Int) : Pty := if (N.pa g).wish = (N.pa g).g.wants.length then { N.pa g with home := N.tick } else if N.walk = 0 then { N.pa g with comes := -1 } else { N.pa g with comes := N.tick + N.walk }
theorem Ngt.next_pa (N : Ngt) {g k : Int} (hg : g.toNat < N.parties.length) : (N.next g).pa k = if k.toNat = g.toNat then N.nx g else N.pa k := by
  unfold Ngt.next Ngt.nx
  by_cases h1 : (N.pa g).wish = (N.pa g).g.wants.length
  · rw [if_pos h1, if_pos h1, Ngt.pa_setP hg]
  · rw [if_neg h1, if_neg h1]
    by_cases h2 : N.walk = 0
    · rw [if_pos h2, if_pos h2]
      exact Ngt.pa_setP hg
    · rw [if_neg h2, if_neg h2, Ngt.pa_setP hg]
theorem Ngt.next_bo (N : Ngt) {g r : Int} (hr : (N.pa g).wish < (N.pa g).g.wants.length → (gt (N.pa g).g.wants (N.pa g).wish).toNat < N.rides.length) (hw : (N.pa g).wish ≤ (N.pa g).g.wants.length) : (N.next g).bo r = if ((N.pa g).wish < (N.pa g).g.wants.length ∧ N.walk = 0) ∧ r.toNat = (gt (N.pa g).g.wants (N.pa g).wish).toNat then { N.bo (gt (N.pa g).g.wants (N.pa g).wish) with queue := (N.bo (gt (N.pa g).g.wants (N.pa g).wish)).queue ++ [(g, N.tick)] } else N.bo r := by
  unfold Ngt.next
  by_cases h1 : (N.pa g).wish = (N.pa g).g.wants.length
  · rw [if_pos h1, if_neg (by omega)]
    rfl
  · rw [if_neg h1]
    have h1' : (N.pa g).wish < (N.pa g).g.wants.length := by omega
    by_cases h2 : N.walk = 0
    · rw [if_pos h2]
      unfold Ngt.arrive
      have hr' : (gt (N.pa g).g.wants (N.pa g).wish).toNat < (N.setP g { N.pa g with comes := -1 }).rides.length := hr h1'
      rw [Ngt.bo_setR hr']
      by_cases h3 : r.toNat = (gt (N.pa g).g.wants (N.pa g).wish).toNat
      · rw [if_pos h3, if_pos ⟨⟨h1', h2⟩, h3⟩]
      · rw [if_neg h3, if_neg fun h => h3 h.2]
        rfl
    · rw [if_neg h2, if_neg fun h => h2 h.1.2]
      rfl
theorem Ngt.arrive_rest (N : Ngt) (g : Int) : (N.arrive g).walk = N.walk ∧ (N.arrive g).tick = N.tick ∧ (N.arrive g).visits = N.visits := ⟨rfl, rfl, rfl⟩
theorem Ngt.next_rest (N : Ngt) (g : Int) : (N.next g).walk = N.walk ∧ (N.next g).tick = N.tick ∧ (N.next g).visits = N.visits := by
  unfold Ngt.next
  split
  · exact ⟨rfl, rfl, rfl⟩
  · split <;> exact ⟨rfl, rfl, rfl⟩
theorem Ngt.setR_nb {N : Ngt} {i : Int} {r : Bth} (h : r.b = (N.bo i).b) : (N.setR i r).rides.map Bth.b = N.rides.map Bth.b := by
  show (N.rides.set i.toNat r).map Bth.b = _
  apply List.ext_getElem
  · simp
  · intro k h1 h2
    simp only [List.getElem_map, List.getElem_set]
    split
    · rename_i e
      subst e
      rw [h]
      simp only [List.length_map] at h2
      simp [Ngt.bo, List.getD, h2]
    · rfl
theorem Ngt.arrive_nb (N : Ngt) (g : Int) : (N.arrive g).rides.map Bth.b = N.rides.map Bth.b := by
  unfold Ngt.arrive
  exact Ngt.setR_nb (N := N.setP g _) rfl
theorem Ngt.next_nb (N : Ngt) (g : Int) : (N.next g).rides.map Bth.b = N.rides.map Bth.b := by
  unfold Ngt.next
  split
  · rfl
  · split
    · exact N.arrive_nb g
    · rfl

section
variable {w : Int} {B : List BthG} {G : List Grp} {d e : Int} {N : Ngt} {S : Pl} {pl : Int → Int} {up : List Int} {fx : Int}

theorem arr_snoc {g r : Int} : arr w G N (up ++ [g]) r = arr w G N up r ++ (if w = 0 ∧ (N.pa g).wish < (wn G g).length ∧ gt (wn G g) (N.pa g).wish = r then [g] else []) := by
  unfold arr
  by_cases h : w = 0
  · rw [if_pos h, if_pos h, List.filter_append]
    congr 1
    by_cases h2 : (N.pa g).wish < (wn G g).length ∧ gt (wn G g) (N.pa g).wish = r
    · rw [if_pos ⟨h, h2⟩]; simp [h2]
    · rw [if_neg fun h' => h2 h'.2]
      rw [List.filter_cons, if_neg (by simpa using h2)]
      rfl
  · rw [if_neg h, if_neg h, if_neg fun h' => h h'.1]
    rfl

/-- in the reference's model a group that is in hand goes on -/
theorem Rl.go (h : Rl w B G d e N S pl up fx) (hv : Val w B G) {g : Int} (g0 : 0 ≤ g) (g1 : g < G.length) (hp : pl g = 5) : Rl w B G d e N (S.on g) (plu pl g 7) (up ++ [g]) fx := by
  have hgl : g.toNat < S.guests.length := by rw [h.lg]; omega
  have hr := h.gr g g0 g1
  have h5 := hr.c5 hp
  have hW : (S.gr g).wants = wn G g := h.sgw g
  have hE := S.on_eq hgl
  have hgu : ∀ k : Int, 0 ≤ k → (S.on g).gu k = if k = g then S.onx g else S.gu k := fun k hk => by
    rw [hE]
    show (S.guests.set g.toNat (S.onx g)).getD k.toNat Gs.d = _
    rw [getD_setq hgl]
    simp only [toNat_inj hk g0]
    rfl
  have hqu : ∀ r : Int, 0 ≤ r → r < B.length → (S.on g).qu r = S.qu r ++ (if w = 0 ∧ (N.pa g).wish < (wn G g).length ∧ gt (wn G g) (N.pa g).wish = r then [g] else []) := fun r r0 r1 => by
    rw [hE]
    unfold Pl.qu
    simp only
    rw [hW, h.sw, h5]
    by_cases c : ¬ ((wn G g).length : Int) ≤ (N.pa g).wish ∧ w = 0
    · have hlt : (N.pa g).wish < (wn G g).length := by omega
      have hv' := hv.want hr.w0 hlt
      rw [if_pos c, getD_setq (by rw [h.lq]; omega)]
      simp only [toNat_inj r0 hv'.1]
      by_cases c2 : gt (wn G g) (N.pa g).wish = r
      · rw [if_pos c2.symm, if_pos ⟨c.2, hlt, c2⟩, ← c2]
      · rw [if_neg fun h' => c2 h'.symm, if_neg fun h' => c2 h'.2.2, List.append_nil]
    · rw [if_neg c, if_neg fun h' => c ⟨by omega, h'.1⟩, List.append_nil]
  have hho : ∀ k : Int, 0 ≤ k → gt (S.on g).homes k = if k = g ∧ (N.pa g).wish = (wn G g).length then N.tick else gt S.homes k := fun k hk => by
    rw [hE]
    simp only
    rw [hW, h5, h.tk]
    have := hr.w1
    by_cases c : ((wn G g).length : Int) ≤ (N.pa g).wish
    · rw [if_pos c]
      unfold gt
      rw [getD_setq (by rw [h.lh]; omega)]
      simp only [toNat_inj hk g0]
      by_cases c2 : k = g
      · rw [if_pos c2, if_pos ⟨c2, by omega⟩]
      · rw [if_neg c2, if_neg fun h' => c2 h'.1]
    · rw [if_neg c, if_neg fun h' => c (by omega)]
  have hpl : ∀ k : Int, k ≠ g → plu pl g 7 k = pl k := fun k hk => plu_ne hk
  have hrest : (S.on g).walk = S.walk ∧ (S.on g).B = S.B ∧ (S.on g).G = S.G ∧ (S.on g).now = S.now ∧ (S.on g).began = S.began ∧ (S.on g).ended = S.ended ∧ (S.on g).visits = S.visits ∧ (S.on g).takes = S.takes ∧ (S.on g).lines = S.lines := by
    rw [hE]; exact ⟨rfl, rfl, rfl, rfl, rfl, rfl, rfl, rfl, rfl⟩
  obtain ⟨r1, r2, r3, r4, r5, r6, r7, r8, r9⟩ := hrest
  have hl1 : (S.on g).guests.length = S.guests.length := by rw [hE]; exact List.length_set ..
  have hl2 : (S.on g).homes.length = S.homes.length := by
    rw [hE]; simp only; split
    · exact List.length_set ..
    · rfl
  have hl3 : (S.on g).queues.length = S.queues.length := by
    rw [hE]; simp only; split
    · exact List.length_set ..
    · rfl
  have hox : S.onx g = ⟨if ((wn G g).length : Int) ≤ (N.pa g).wish then 4 else if w = 0 then 2 else 1, (N.pa g).wish, N.tick, (S.gu g).tokens⟩ := by
    unfold Pl.onx; rw [hW, h5, h.sw, h.tk]
  refine { nw := h.nw, nb := h.nb, ng := h.ng, sw := by rw [r1]; exact h.sw, sb := by rw [r2]; exact h.sb, sg := by rw [r3]; exact h.sg, lg := by rw [hl1]; exact h.lg, lh := by rw [hl2]; exact h.lh, lq := by rw [hl3]; exact h.lq, lb := by rw [r5]; exact h.lb, le := by rw [r6]; exact h.le, lt := by rw [r8]; exact h.lt, ll := by rw [r9]; exact h.ll, tk := by rw [r4]; exact h.tk, t0 := h.t0, vs := by rw [r7]; exact h.vs, gr := ?_, wk := ?_, qu := ?_, ql := ?_, qe := ?_, qn := h.qn, qc := ?_, oe := ?_, on := h.on, oc := ?_, re := by rw [r6]; exact h.re, rb := by rw [r5]; exact h.rb, rt := by rw [r8, r9]; exact h.rt, ue := ?_, un := ?_, uc := ?_ }
  · intro k k0 k1
    rw [hgu k k0, hho k k0]
    by_cases c : k = g
    · subst c
      rw [if_pos rfl, plu_same, hox]
      refine ⟨hr.w0, hr.w1, hr.tk, fun _ => hr.cm (by omega), ?_, fun h' => by omega, fun h' => by omega, fun h' => by omega, fun h' => by omega, fun h' => by omega, fun h' => by omega, fun h' => by omega, fun _ => ⟨fun c1 => ?_, fun c1 c2 => ?_, fun c1 c2 => ?_⟩, by omega⟩
      · by_cases c1 : (N.pa k).wish = (wn G k).length
        · exact .inr ⟨rfl, c1⟩
        · rw [if_neg fun h' => c1 h'.2]
          rcases hr.hm with h' | h'
          · exact .inl h'
          · omega
      · refine ⟨?_, if_pos ⟨rfl, c1⟩⟩
        show (if _ then (4 : Int) else _) = 4
        exact if_pos (by omega)
      · refine ⟨?_, rfl, rfl⟩
        show (if _ then (4 : Int) else _) = 2
        rw [if_neg (by omega), if_pos c2]
      · refine ⟨?_, rfl, rfl⟩
        show (if _ then (4 : Int) else _) = 1
        rw [if_neg (by omega), if_neg c2]
    · rw [if_neg c, hpl k c, if_neg fun h' => c h'.1]
      exact h.gr k k0 k1
  · intro k k0 k1 hk
    by_cases c : k = g
    · subst c; rw [plu_same] at hk; omega
    · rw [hpl k c] at hk; exact h.wk k k0 k1 hk
  · intro r r0 r1'
    rw [hqu r r0 r1', arr_snoc, ← List.append_assoc, ← h.qu r r0 r1', List.filter_append, filter_upd (.inl ⟨by omega, by omega⟩)]
    congr 1
    split
    · rw [List.filter_cons, if_pos (by rw [plu_same]; rfl)]
      rfl
    · rfl
  · intro r r0 r1' k hk
    rw [hqu r r0 r1'] at hk
    rcases List.mem_append.1 hk with hk | hk
    · obtain ⟨a1, a2, a3⟩ := h.ql r r0 r1' k hk
      refine ⟨a1, a2, fun h6 => a3 ?_⟩
      by_cases c : k = g
      · subst c; rw [plu_same] at h6; omega
      · rwa [hpl k c] at h6
    · split at hk
      · rw [List.mem_singleton.1 hk]
        exact ⟨g0, g1, fun h6 => by rw [plu_same] at h6; omega⟩
      · cases hk
  · intro r r0 r1' x hx
    obtain ⟨a1, a2, a3, a4, a5⟩ := h.qe r r0 r1' x hx
    have c : x.1 ≠ g := fun c => by rw [c] at a3; omega
    rw [hpl _ c, hgu _ a1, if_neg c]
    exact ⟨a1, a2, a3, a4, a5⟩
  · intro k k0 k1 hk
    by_cases c : k = g
    · subst c; rw [plu_same] at hk; omega
    · rw [hpl k c] at hk
      rw [hgu k k0, if_neg c]
      exact h.qc k k0 k1 hk
  · intro r r0 r1' k hk
    obtain ⟨a1, a2, a3, a4⟩ := h.oe r r0 r1' k hk
    have c : k ≠ g := fun c => by rw [c] at a3; omega
    rw [hpl k c]
    exact ⟨a1, a2, a3, a4⟩
  · intro k k0 k1 hk
    by_cases c : k = g
    · subst c; rw [plu_same] at hk; omega
    · rw [hpl k c] at hk
      exact h.oc k k0 k1 hk
  · intro k hk
    rcases List.mem_append.1 hk with hk | hk
    · obtain ⟨a1, a2, a3⟩ := h.ue k hk
      have c : k ≠ g := fun c => by rw [c] at a3; omega
      rw [hpl k c]
      exact ⟨a1, a2, a3⟩
    · rw [List.mem_singleton.1 hk]
      exact ⟨g0, g1, plu_same⟩
  · refine List.nodup_append.2 ⟨h.un, by simp, fun a ha b hb => ?_⟩
    rw [List.mem_singleton.1 hb]
    intro c
    have := (h.ue a ha).2.2
    rw [c] at this
    omega
  · intro k k0 k1 hk
    by_cases c : k = g
    · rw [c]; simp
    · rw [hpl k c] at hk
      exact List.mem_append_left _ (h.uc k k0 k1 hk)

/-- where a group goes that goes on -/
def wto (w : Int) (W : List Int) (n : Int) : Int := if n = W.length then 4 else if w = 0 then 2 else 1
/-- .. and in the program's model, too -/
theorem Rl.after {g : Int} (h : Rl w B G d e N S pl (g :: up) fx) (hv : Val w B G) (hd : d ≤ 1) : Rl w B G d e (N.next g) S (plu pl g (wto w (wn G g) (N.pa g).wish)) up fx := by
  obtain ⟨g0, g1, hp⟩ := h.ue g (List.mem_cons_self ..)
  obtain ⟨hnu, hun⟩ := List.nodup_cons.1 h.un
  have hgl : g.toNat < N.parties.length := by rw [h.np]; omega
  have hr := h.gr g g0 g1
  have hW : (N.pa g).g.wants = wn G g := h.pw g0 g1
  have h7 := hr.c7 hp
  have hwb := hr.w1
  have hpa : ∀ k : Int, 0 ≤ k → (N.next g).pa k = if k = g then N.nx g else N.pa k := fun k hk => by
    rw [N.next_pa hgl]
    simp only [toNat_inj hk g0]
  have hbo : ∀ r : Int, 0 ≤ r → (N.next g).bo r = if ((N.pa g).wish < (wn G g).length ∧ w = 0) ∧ r = gt (wn G g) (N.pa g).wish then { N.bo r with queue := (N.bo r).queue ++ [(g, N.tick)] } else N.bo r := fun r hr' => by
    rw [N.next_bo (fun hlt => ?_) (by rw [hW]; exact hwb), hW, h.nw]
    · by_cases c : ((N.pa g).wish < (wn G g).length ∧ w = 0)
      · have hv' := hv.want hr.w0 c.1
        simp only [toNat_inj hr' hv'.1]
        by_cases c2 : r = gt (wn G g) (N.pa g).wish
        · rw [if_pos ⟨c, c2⟩, if_pos ⟨c, c2⟩, ← c2]
        · rw [if_neg fun h' => c2 h'.2, if_neg fun h' => c2 h'.2]
      · rw [if_neg fun h' => c h'.1, if_neg fun h' => c h'.1]
    · rw [hW] at hlt ⊢
      have hv' := hv.want hr.w0 hlt
      rw [h.nr]
      omega
  obtain ⟨n1, n2, n3⟩ := N.next_rest g
  have hnw : (N.nx g).wish = (N.pa g).wish ∧ (N.nx g).purse = (N.pa g).purse := by
    unfold Ngt.nx
    split
    · exact ⟨rfl, rfl⟩
    · split <;> exact ⟨rfl, rfl⟩
  have hwk : ∀ k : Int, 0 ≤ k → ((N.next g).pa k).wish = (N.pa k).wish := fun k hk => by
    rw [hpa k hk]
    by_cases c : k = g
    · rw [if_pos c, c]; exact hnw.1
    · rw [if_neg c]
  have hpl : ∀ k : Int, k ≠ g → ∀ p, plu pl g p k = pl k := fun k hk p => plu_ne hk
  have hto : wto w (wn G g) (N.pa g).wish = 4 ∧ (N.pa g).wish = (wn G g).length ∨ wto w (wn G g) (N.pa g).wish = 2 ∧ (N.pa g).wish < (wn G g).length ∧ w = 0 ∨ wto w (wn G g) (N.pa g).wish = 1 ∧ (N.pa g).wish < (wn G g).length ∧ w ≠ 0 := by
    unfold wto
    by_cases c1 : (N.pa g).wish = (wn G g).length
    · rw [if_pos c1]; exact .inl ⟨rfl, c1⟩
    · rw [if_neg c1]
      by_cases c2 : w = 0
      · rw [if_pos c2]; exact .inr (.inl ⟨rfl, by omega, c2⟩)
      · rw [if_neg c2]; exact .inr (.inr ⟨rfl, by omega, c2⟩)
  have hup : ∀ k ∈ up, k ≠ g := fun k hk c => hnu (c ▸ hk)
  have harr : ∀ r : Int, 0 ≤ r → arr w G N (g :: up) r = (if ((N.pa g).wish < (wn G g).length ∧ w = 0) ∧ r = gt (wn G g) (N.pa g).wish then [g] else []) ++ arr w G (N.next g) up r := fun r hr' => by
    unfold arr
    have hf : up.filter (fun k => decide (((N.next g).pa k).wish < (wn G k).length ∧ gt (wn G k) ((N.next g).pa k).wish = r)) = up.filter fun k => decide ((N.pa k).wish < (wn G k).length ∧ gt (wn G k) (N.pa k).wish = r) := by
      apply List.filter_congr
      intro k hk
      rw [hwk k (h.ue k (List.mem_cons_of_mem _ hk)).1]
    by_cases c : w = 0
    · rw [if_pos c, if_pos c, hf, List.filter_cons]
      by_cases c2 : (N.pa g).wish < (wn G g).length ∧ gt (wn G g) (N.pa g).wish = r
      · rw [if_pos (decide_eq_true c2), if_pos ⟨⟨c2.1, c⟩, c2.2.symm⟩]
        rfl
      · rw [if_neg (by rw [decide_eq_false c2]; simp), if_neg fun h' => c2 ⟨h'.1.1, h'.2.symm⟩]
        rfl
    · rw [if_neg c, if_neg c, if_neg fun h' => c h'.1.2]
      rfl
  have hto6 : wto w (wn G g) (N.pa g).wish ≠ 6 ∧ wto w (wn G g) (N.pa g).wish ≠ 7 ∧ wto w (wn G g) (N.pa g).wish ≠ 3 := by omega
  generalize wto w (wn G g) (N.pa g).wish = to at *
  have hqe' : ∀ r : Int, 0 ≤ r → r < B.length → ∀ x ∈ (N.bo r).queue, x.1 ≠ g := fun r r0 r1 x hx c => by
    have := (h.qe r r0 r1 x hx).2.2.1
    rw [c] at this
    omega
  have hboo : ∀ r : Int, 0 ≤ r → ((N.next g).bo r).on = (N.bo r).on ∧ ((N.next g).bo r).ended = (N.bo r).ended ∧ ((N.next g).bo r).begun = (N.bo r).begun ∧ ((N.next g).bo r).b = (N.bo r).b ∧ ((N.next g).bo r).takes = (N.bo r).takes ∧ ((N.next g).bo r).line = (N.bo r).line := fun r hr' => by
    rw [hbo r hr']
    split <;> exact ⟨rfl, rfl, rfl, rfl, rfl, rfl⟩
  have hboq : ∀ r : Int, 0 ≤ r → ((N.next g).bo r).queue = (N.bo r).queue ++ (if ((N.pa g).wish < (wn G g).length ∧ w = 0) ∧ r = gt (wn G g) (N.pa g).wish then [(g, N.tick)] else []) := fun r hr' => by
    rw [hbo r hr']
    split
    · rfl
    · rw [List.append_nil]
  refine { nw := by rw [n1]; exact h.nw, nb := by rw [N.next_nb]; exact h.nb, ng := (N.next_stat h.stat g).2, sw := h.sw, sb := h.sb, sg := h.sg, lg := h.lg, lh := h.lh, lq := h.lq, lb := h.lb, le := h.le, lt := h.lt, ll := h.ll, tk := by rw [n2]; exact h.tk, t0 := by rw [n2]; exact h.t0, vs := by rw [n3]; exact h.vs, gr := ?_, wk := ?_, qu := ?_, ql := ?_, qe := ?_, qn := ?_, qc := ?_, oe := ?_, on := ?_, oc := ?_, re := ?_, rb := ?_, rt := ?_, ue := ?_, un := hun, uc := ?_ }
  · intro k k0 k1
    rw [hpa k k0, n2]
    by_cases c : k = g
    · subst c
      rw [if_pos rfl, plu_same]
      have hw0 := hr.w0
      have hw1 := hr.w1
      have htk := hr.tk
      have hcm := hr.cm (by omega)
      have hhm := hr.hm
      have ht0 := h.t0
      unfold Ngt.nx
      rw [hW, h.nw]
      rcases hto with ⟨e1, e2⟩ | ⟨e1, e2, e3⟩ | ⟨e1, e2, e3⟩
      · rw [if_pos e2, e1]
        obtain ⟨s1, s2⟩ := h7.1 e2
        exact ⟨hw0, hw1, htk, fun _ => hcm, .inl s2, fun h' => by omega, fun h' => by omega, fun h' => by omega, fun h' => by omega, fun _ => s1, fun h' => by omega, fun h' => by omega, fun h' => by omega, by omega⟩
      · rw [if_neg (by omega), if_pos e3, e1]
        obtain ⟨s1, s2, s3⟩ := h7.2.1 e2 e3
        exact ⟨hw0, hw1, htk, fun _ => rfl, by rcases hhm with h' | h'; exact .inl h'; omega, fun h' => by omega, fun h' => by omega, fun _ => ⟨s1, s2, e2, by omega, by omega⟩, fun h' => by omega, fun h' => by omega, fun h' => by omega, fun h' => by omega, fun h' => by omega, by omega⟩
      · rw [if_neg (by omega), if_neg e3, e1]
        obtain ⟨s1, s2, s3⟩ := h7.2.2 e2 e3
        refine ⟨hw0, hw1, htk, fun h' => absurd rfl h', by rcases hhm with h' | h'; exact .inl h'; omega, fun h' => by omega, fun _ => ⟨s1, s2, e2, ?_, e3, by omega, by omega⟩, fun h' => by omega, fun h' => by omega, fun h' => by omega, fun h' => by omega, fun h' => by omega, fun h' => by omega, by omega⟩
        show N.tick + w = _
        rw [s3]
    · rw [if_neg c, hpl k c]
      exact h.gr k k0 k1
  · intro k k0 k1 hk
    rw [hpa k k0, n2]
    by_cases c : k = g
    · subst c
      rw [plu_same] at hk
      rw [if_pos rfl]
      unfold Ngt.nx
      rw [hW, h.nw, if_neg (by omega), if_neg (by omega)]
      have := hv.w
      show N.tick + d ≤ N.tick + w
      omega
    · rw [hpl k c] at hk
      rw [if_neg c]
      exact h.wk k k0 k1 hk
  · intro r r0 r1
    have h1 := h.qu r r0 r1
    rw [filter_upd (.inl ⟨by omega, hto6.1⟩), h1, harr r r0, hboq r r0, List.map_append, List.append_assoc]
    congr 2
    split <;> rfl
  · intro r r0 r1 k hk
    obtain ⟨a1, a2, a3⟩ := h.ql r r0 r1 k hk
    refine ⟨a1, a2, fun h6 => ?_⟩
    rw [hwk k a1]
    refine a3 ?_
    by_cases c : k = g
    · subst c; rw [plu_same] at h6; exact absurd h6 hto6.1
    · rwa [hpl k c] at h6
  · intro r r0 r1 x hx
    rw [hboq r r0] at hx
    rcases List.mem_append.1 hx with hx | hx
    · obtain ⟨a1, a2, a3, a4, a5⟩ := h.qe r r0 r1 x hx
      have c := hqe' r r0 r1 x hx
      rw [hpl _ c, hwk _ a1]
      exact ⟨a1, a2, a3, a4, a5⟩
    · split at hx
      · rename_i c
        rw [List.mem_singleton.1 hx]
        have e1 : to = 2 := by omega
        refine ⟨g0, g1, by rw [plu_same]; exact e1, by rw [hwk g g0]; exact c.2.symm, ?_⟩
        exact (h7.2.1 c.1.1 c.1.2).2.2.symm
      · cases hx
  · intro r r0 r1
    rw [hboq r r0, List.map_append]
    refine List.nodup_append.2 ⟨h.qn r r0 r1, by split <;> simp, fun a ha b hb => ?_⟩
    split at hb
    · have hb : b = g := by simpa using hb
      obtain ⟨x, hx, rfl⟩ := List.mem_map.1 ha
      rw [hb]
      exact hqe' r r0 r1 x hx
    · cases hb
  · intro k k0 k1 hk
    rw [hwk k k0]
    by_cases c : k = g
    · subst c
      rw [plu_same] at hk
      have e2 : (N.pa k).wish < (wn G k).length ∧ w = 0 := by omega
      have hv' := hv.want hr.w0 e2.1
      rw [hboq _ hv'.1, if_pos ⟨e2, rfl⟩, (h7.2.1 e2.1 e2.2).2.2]
      simp
    · rw [hpl k c] at hk
      have hlt := (h.gr k k0 k1).c2 hk
      have hv' := hv.want (h.gr k k0 k1).w0 hlt.2.2.1
      rw [hboq _ hv'.1]
      exact List.mem_append_left _ (h.qc k k0 k1 hk)
  · intro r r0 r1 k hk
    rw [(hboo r r0).1] at hk
    obtain ⟨a1, a2, a3, a4⟩ := h.oe r r0 r1 k hk
    have c : k ≠ g := fun c => by rw [c] at a3; omega
    rw [hpl k c, hwk k a1]
    exact ⟨a1, a2, a3, a4⟩
  · intro r r0 r1
    rw [(hboo r r0).1]
    exact h.on r r0 r1
  · intro k k0 k1 hk
    by_cases c : k = g
    · subst c; rw [plu_same] at hk; exact absurd hk hto6.2.2
    · rw [hpl k c] at hk
      rw [hwk k k0]
      have h3 := (h.gr k k0 k1).c3 hk
      have hb3 := (h.gr k k0 k1).w1
      have hv' := hv.want (g := k) (k := (N.pa k).wish - 1) (by omega) (by omega)
      rw [(hboo _ hv'.1).1]
      exact h.oc k k0 k1 hk
  · intro r r0 r1
    rw [(hboo r r0).2.1, n2]
    exact h.re r r0 r1
  · intro r r0 r1
    obtain ⟨b1, b2, b3, b4, b5, b6⟩ := hboo r r0
    rw [b1, b3, b4, n2]
    exact h.rb r r0 r1
  · intro r r0 r1
    obtain ⟨b1, b2, b3, b4, b5, b6⟩ := hboo r r0
    rw [b5, b6]
    exact h.rt r r0 r1
  · intro k hk
    obtain ⟨a1, a2, a3⟩ := h.ue k (List.mem_cons_of_mem _ hk)
    rw [hpl k (hup k hk)]
    exact ⟨a1, a2, a3⟩
  · intro k k0 k1 hk
    by_cases c : k = g
    · subst c; rw [plu_same] at hk; exact absurd hk hto6.2.1
    · rw [hpl k c] at hk
      rcases List.mem_cons.1 (h.uc k k0 k1 hk) with c' | h'
      · exact absurd c' c
      · exact h'
end
end Go.Proofs.Ytgcefaikdplbkaa
