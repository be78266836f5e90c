/- A ride is filled, in both models. No program in sight. -/
import Derived.Test.YtgcefaikdplbkaaQb7
namespace Go.Proofs.Ytgcefaikdplbkaa
open Go.RowKit

def Pl.bad (S : Pl) (r g : Int) : Bool := decide ((S.bt r).seats < (S.gr g).size) || decide ((S.gu g).tokens < (S.gr g).size * (S.bt r).price)
def fillR (r : Int) : List Int → Int → Pl → Pl × Int
  | [], left, S => (S, left)
  | g :: q, left, S =>
    if S.bad r g = true then fillR r q left (S.leave g false)
    else if (S.gr g).size ≤ left then fillR r q (left - (S.gr g).size) (S.leave g true)
    else if (S.bt r).fill = true then fillR r q left S
    else (S, left)
def Pl.goesOn (S : Pl) (r : Int) : Bool := decide (0 ≤ gt S.began r) || (decide (0 ≤ gt S.ended r) && decide (S.now - gt S.ended r < (S.bt r).pause))
def Pl.setB (S : Pl) (r t : Int) : Pl := { S with began := S.began.set r.toNat t }
def Pl.begin (S : Pl) (r : Int) : Pl :=
  if S.goesOn r = true then S
  else if (fillR r (S.qu r) (S.bt r).seats S).2 < (S.bt r).seats then (fillR r (S.qu r) (S.bt r).seats S).1.setB r S.now else (fillR r (S.qu r) (S.bt r).seats S).1

/-- who is still in the queue that is gone through counts as in it -/
def Fl.vis (F : Fl) (i : Int) (q : List (Int × Int)) : Ngt := F.N.setR i { F.N.bo i with queue := F.stay ++ q }
def Ngt.board (N : Ngt) (i g c : Int) : Ngt := (N.setP g { N.pa g with purse := (N.pa g).purse - c }).setR i { N.bo i with takes := (N.bo i).takes + c, on := (N.bo i).on ++ [g] }
theorem Fl.vis_out (F : Fl) (i : Int) (s : Int × Int) (q : List (Int × Int)) : (F.out s).vis i q = (F.vis i q).done s false := rfl
theorem Fl.vis_keep (F : Fl) (i : Int) (s : Int × Int) (q : List (Int × Int)) : (F.keep s).vis i q = F.vis i (s :: q) := by
  unfold Fl.vis Fl.keep
  simp only [List.append_assoc, List.singleton_append]
theorem Fl.vis_ride (F : Fl) {i : Int} {s : Int × Int} (q : List (Int × Int)) (hg : s.1.toNat < F.N.parties.length) (hi : i.toNat < F.N.rides.length) : (F.ride i s).vis i q = ((F.vis i q).done s true).board i s.1 (F.N.cost i s) := by
  have e1 : (F.N.gets i s).pa s.1 = { F.N.pa s.1 with purse := (F.N.pa s.1).purse - F.N.cost i s } := by
    show (F.N.setP s.1 _).pa s.1 = _
    rw [Ngt.pa_setP hg, if_pos rfl]
  have e2 : ((F.vis i q).done s true).pa s.1 = { F.N.pa s.1 with wish := (F.N.pa s.1).wish + 1 } := by
    show (F.N.setP s.1 _).pa s.1 = _
    rw [Ngt.pa_setP hg, if_pos rfl]
    rfl
  have e3 : ((F.N.gets i s).done s true).bo i = { F.N.bo i with takes := (F.N.bo i).takes + F.N.cost i s, on := (F.N.bo i).on ++ [s.1] } := by
    show (F.N.setR i _).bo i = _
    rw [Ngt.bo_setR hi, if_pos rfl]
  have e4 : ((F.vis i q).done s true).bo i = { F.N.bo i with queue := F.stay ++ q } := by
    show (F.N.setR i _).bo i = _
    rw [Ngt.bo_setR hi, if_pos rfl]
  unfold Fl.vis at e2 e4
  unfold Fl.vis Ngt.board
  show ((F.N.gets i s).done s true).setR i { ((F.N.gets i s).done s true).bo i with queue := F.stay ++ q } = _
  rw [e3, e2, e4]
  unfold Ngt.done
  rw [e1]
  unfold Ngt.setR Ngt.setP Ngt.setV Ngt.gets Ngt.pays Ngt.setP Ngt.setR
  simp only [List.set_set, Ngt.mk.injEq, true_and]
  rfl

section
variable {w : Int} {B : List BthG} {G : List Grp} {d e : Int} {N : Ngt} {S : Pl} {pl : Int → Int} {up : List Int} {fx : Int}
/-- a group gets on -/
theorem Rl.boards (h : Rl w B G d e N S pl up fx) {g : Int} (g0 : 0 ≤ g) (g1 : g < G.length) (f0 : 0 ≤ fx) (f1 : fx < B.length) (hp : pl g = 5) (hw : gt (wn G g) ((N.pa g).wish - 1) = fx) (hw0 : 1 ≤ (N.pa g).wish) (c : Int) (x : Gs) (hx : x = ⟨3, (S.gu g).want, S.now, (S.gu g).tokens - c⟩) :
    Rl w B G d e (N.board fx g c) ((S.setG g x).setT fx (gt S.takes fx + c)) (plu pl g 3) up fx := by
  have hr := h.gr g g0 g1
  have hgl : g.toNat < N.parties.length := by rw [h.np]; omega
  have hgl2 : g.toNat < S.guests.length := by rw [h.lg]; omega
  have hil : fx.toNat < N.rides.length := by rw [h.nr]; omega
  have hpa : ∀ k : Int, 0 ≤ k → (N.board fx g c).pa k = if k = g then { N.pa g with purse := (N.pa g).purse - c } else N.pa k := fun k hk => by
    show (N.setP g _).pa k = _
    rw [Ngt.pa_setP hgl]
    simp only [toNat_inj hk g0]
  have hbo : ∀ r : Int, 0 ≤ r → (N.board fx g c).bo r = if r = fx then { N.bo r with takes := (N.bo r).takes + c, on := (N.bo r).on ++ [g] } else N.bo r := fun r hr' => by
    show (N.setR fx _).bo r = _
    rw [Ngt.bo_setR hil]
    simp only [toNat_inj hr' f0]
    by_cases e' : r = fx
    · rw [if_pos e', if_pos e', e']
    · rw [if_neg e', if_neg e']
  have hgu : ∀ k : Int, 0 ≤ k → ((S.setG g x).setT fx (gt S.takes fx + c)).gu k = if k = g then x else S.gu k := fun k hk => by
    show (S.setG g x).gu k = _
    rw [Pl.gu_setG hgl2]
    simp only [toNat_inj hk g0]
  have hpk : ∀ k : Int, 0 ≤ k → ((N.board fx g c).pa k).wish = (N.pa k).wish := fun k hk => by
    rw [hpa k hk]
    by_cases e' : k = g
    · rw [if_pos e', e']
    · rw [if_neg e']
  have hpl : ∀ k : Int, k ≠ g → plu pl g 3 k = pl k := fun k hk => plu_ne hk
  have harr : ∀ r, arr w G (N.board fx g c) up r = arr w G N up r := fun r => by
    unfold arr
    split
    · apply List.filter_congr
      intro k hk
      rw [hpk k (h.ue k hk).1]
    · rfl
  have hbq : ∀ r : Int, 0 ≤ r → ((N.board fx g c).bo r).queue = (N.bo r).queue ∧ ((N.board fx g c).bo r).ended = (N.bo r).ended ∧ ((N.board fx g c).bo r).begun = (N.bo r).begun ∧ ((N.board fx g c).bo r).b = (N.bo r).b ∧ ((N.board fx g c).bo r).line = (N.bo r).line := fun r hr' => by
    rw [hbo r hr']
    split <;> exact ⟨rfl, rfl, rfl, rfl, rfl⟩
  refine { nw := h.nw, nb := ?_, ng := ?_, sw := h.sw, sb := h.sb, sg := h.sg, lg := by show (S.guests.set _ _).length = _; rw [List.length_set]; exact h.lg, lh := h.lh, lq := h.lq, lb := h.lb, le := h.le, lt := by show (S.takes.set _ _).length = _; rw [List.length_set]; exact h.lt, ll := h.ll, tk := h.tk, t0 := h.t0, vs := h.vs, gr := ?_, wk := ?_, qu := ?_, ql := ?_, qe := ?_, qn := ?_, qc := ?_, oe := ?_, on := ?_, oc := ?_, re := ?_, rb := ?_, rt := ?_, ue := ?_, un := h.un, uc := ?_ }
  · rw [← h.nb]
    exact Ngt.setR_nb (N := N.setP g _) rfl
  · exact (h.stat.setP (g := g) (p := { N.pa g with purse := (N.pa g).purse - c }) rfl).2
  · intro k k0 k1
    show RG w N.tick (wn G k) _ _ (gt S.homes k) _
    rw [hpa k k0, hgu k k0]
    by_cases e' : k = g
    · subst e'
      rw [if_pos rfl, if_pos rfl, plu_same, hx]
      have h5 := hr.c5 hp
      refine ⟨hr.w0, hr.w1, ?_, fun _ => hr.cm (by omega), ?_, fun h' => by omega, fun h' => by omega, fun h' => by omega, fun _ => ⟨rfl, h5, by show 0 ≤ (S.gu k).want; omega⟩, fun h' => by omega, fun h' => by omega, fun h' => by omega, fun h' => by omega, by omega⟩
      · show (S.gu k).tokens - c = (N.pa k).purse - c
        rw [hr.tk]
      · rcases hr.hm with h' | h'
        · exact .inl h'
        · omega
    · rw [if_neg e', if_neg e', hpl k e']
      exact h.gr k k0 k1
  · intro k k0 k1 hk
    by_cases e' : k = g
    · subst e'; rw [plu_same] at hk; omega
    · rw [hpl k e'] at hk
      rw [hpa k k0, if_neg e']
      exact h.wk k k0 k1 hk
  · intro r r0 r1
    rw [harr, (hbq r r0).1, ← h.qu r r0 r1]
    show (S.qu r).filter _ = _
    exact filter_upd (.inl ⟨by omega, by omega⟩)
  · intro r r0 r1 k hk
    obtain ⟨a1, a2, a3⟩ := h.ql r r0 r1 k hk
    refine ⟨a1, a2, fun h6 => ?_⟩
    rw [hpk k a1]
    refine a3 ?_
    by_cases e' : k = g
    · subst e'; rw [plu_same] at h6; omega
    · rwa [hpl k e'] at h6
  · intro r r0 r1 y hy
    rw [(hbq r r0).1] at hy
    obtain ⟨a1, a2, a3, a4, a5⟩ := h.qe r r0 r1 y hy
    have e' : y.1 ≠ g := fun e' => by rw [e'] at a3; omega
    rw [hpl _ e', hpk _ a1, hgu _ a1, if_neg e']
    exact ⟨a1, a2, a3, a4, a5⟩
  · intro r r0 r1
    rw [(hbq r r0).1]
    exact h.qn r r0 r1
  · intro k k0 k1 hk
    by_cases e' : k = g
    · subst e'; rw [plu_same] at hk; omega
    · rw [hpl k e'] at hk
      rw [hpk k k0, hgu k k0, if_neg e']
      have hm := h.qc k k0 k1 hk
      by_cases hneg : 0 ≤ gt (wn G k) (N.pa k).wish
      · rw [(hbq _ hneg).1]
        exact hm
      · have e0 : ∀ M : Ngt, M.bo (gt (wn G k) (N.pa k).wish) = M.bo 0 := fun M => by
          unfold Ngt.bo
          rw [show (gt (wn G k) (N.pa k).wish).toNat = (0 : Int).toNat by omega]
        rw [e0] at hm ⊢
        rw [(hbq 0 (by omega)).1]
        exact hm
  · intro r r0 r1 k hk
    rw [hbo r r0] at hk
    have key : k ∈ (N.bo r).on ∨ r = fx ∧ k = g := by
      split at hk
      · rename_i e'
        rcases List.mem_append.1 hk with hk | hk
        · exact .inl hk
        · exact .inr ⟨e', List.mem_singleton.1 hk⟩
      · exact .inl hk
    rcases key with hk | ⟨e1, e2⟩
    · obtain ⟨a1, a2, a3, a4⟩ := h.oe r r0 r1 k hk
      have e' : k ≠ g := fun e' => by rw [e'] at a3; omega
      rw [hpl k e', hpk k a1]
      exact ⟨a1, a2, a3, a4⟩
    · subst e2
      rw [hpk k g0, e1]
      exact ⟨g0, g1, plu_same, hw⟩
  · intro r r0 r1
    rw [hbo r r0]
    have hn := h.on r r0 r1
    split
    · refine List.nodup_append.2 ⟨hn, by simp, fun a ha b hb => ?_⟩
      rw [List.mem_singleton.1 hb]
      intro e'
      have := (h.oe r r0 r1 a ha).2.2.1
      rw [e'] at this
      omega
    · exact hn
  · intro k k0 k1 hk
    rw [hpk k k0]
    by_cases e' : k = g
    · subst e'
      rw [hw, hbo fx f0, if_pos rfl]
      simp
    · rw [hpl k e'] at hk
      have hm := h.oc k k0 k1 hk
      have hmm : ∀ r : Int, 0 ≤ r → k ∈ (N.bo r).on → k ∈ ((N.board fx g c).bo r).on := fun r r0 hm => by
        rw [hbo r r0]
        split
        · exact List.mem_append_left _ hm
        · exact hm
      by_cases hneg : 0 ≤ gt (wn G k) ((N.pa k).wish - 1)
      · exact hmm _ hneg hm
      · have e0 : ∀ M : Ngt, M.bo (gt (wn G k) ((N.pa k).wish - 1)) = M.bo 0 := fun M => by
          unfold Ngt.bo
          rw [show (gt (wn G k) ((N.pa k).wish - 1)).toNat = (0 : Int).toNat by omega]
        rw [e0] at hm ⊢
        exact hmm 0 (by omega) hm
  · intro r r0 r1
    rw [(hbq r r0).2.1]
    exact h.re r r0 r1
  · intro r r0 r1
    obtain ⟨b1, b2, b3, b4, b5⟩ := hbq r r0
    obtain ⟨a1, a2, a3, a4, a5⟩ := h.rb r r0 r1
    rw [b3, b4]
    refine ⟨a1, a2, fun hf => ?_, fun hf hon => ?_, a5⟩
    · rw [hbo r r0, if_neg hf]
      exact a3 hf
    · rw [hbo r r0, if_neg hf] at hon
      exact a4 hf hon
  · intro r r0 r1
    obtain ⟨a1, a2⟩ := h.rt r r0 r1
    rw [(hbq r r0).2.2.2.2]
    refine ⟨?_, a2⟩
    show gt (S.takes.set fx.toNat (gt S.takes fx + c)) r = _
    rw [hbo r r0]
    unfold gt
    rw [getD_setq (by rw [h.lt]; omega)]
    simp only [toNat_inj r0 f0]
    by_cases e' : r = fx
    · rw [if_pos e', if_pos e', ← e']
      show gt S.takes r + c = (N.bo r).takes + c
      rw [a1]
    · rw [if_neg e', if_neg e']
      exact a1
  · intro k hk
    obtain ⟨a1, a2, a3⟩ := h.ue k hk
    rw [hpl k fun e' => by rw [e'] at a3; omega]
    exact ⟨a1, a2, a3⟩
  · intro k k0 k1 hk
    by_cases e' : k = g
    · subst e'; rw [plu_same] at hk; omega
    · rw [hpl k e'] at hk
      exact h.uc k k0 k1 hk
theorem Mo.board {i g c : Int} (h : Mo G N) (i0 : 0 ≤ i) (i1 : i < N.rides.length) (g0 : 0 ≤ g) (g1 : g < G.length) (c0 : 0 ≤ c) (c1 : c ≤ (N.pa g).purse) : Mo G (N.board i g c) := by
  have ht : i < N.takesL.length := by unfold Ngt.takesL; rw [List.length_map]; exact i1
  have hp : g < N.purseL.length := by unfold Ngt.purseL; rw [List.length_map, h.lp]; exact g1
  have e1 : (N.board i g c).takesL = N.takesL.set i.toNat (gt N.takesL i + c) := by
    rw [← N.bo_takes]
    unfold Ngt.takesL Ngt.board Ngt.setR Ngt.setP
    simp only
    rw [List.map_set]
  have e2 : (N.board i g c).purseL = N.purseL.set g.toNat (gt N.purseL g - c) := by
    rw [← N.pa_purse]
    unfold Ngt.purseL Ngt.board Ngt.setR Ngt.setP
    simp only
    rw [List.map_set]
  have e3 : (N.board i g c).wishL = N.wishL := Ngt.setP_wishL (N := N) rfl
  have hm := h.mt
  refine ⟨(List.length_set ..).trans h.lp, ?_, ?_, ?_, by rw [e3]; exact h.vl, by rw [e3]; exact h.vk, h.vu⟩
  · rw [e1, e2, sumI_setI i0 ht, sumI_setI g0 hp]
    omega
  · rw [e1]
    intro x hx
    rcases List.mem_or_eq_of_mem_set hx with hx | hx
    · exact h.tp x hx
    · rw [hx]
      rcases gt_mem_or (xs := N.takesL) i with hm | hm
      · have := h.tp _ hm; omega
      · omega
  · rw [e2]
    intro x hx
    rcases List.mem_or_eq_of_mem_set hx with hx | hx
    · exact h.pp x hx
    · rw [hx, ← N.pa_purse]
      omega
/-- those who have given up go on -/
theorem Rl.afterL (hv : Val w B G) (hd : d ≤ 1) : ∀ (L : List Int) (N : Ngt) (pl : Int → Int), Rl w B G d e N S pl L fx → Mo G N → N.tick ≤ 5000 →
    (∀ k, (hk : k < L.length) → ((L.take k).foldl Ngt.next N).Nxt L[k]) ∧ ∃ pl', Rl w B G d e (L.foldl Ngt.next N) S pl' [] fx ∧ Mo G (L.foldl Ngt.next N) ∧
      (∀ k, k ∉ L → pl' k = pl k) ∧ (∀ k ∈ L, pl' k = 4 ∨ pl' k = 2 ∨ pl' k = 1) ∧ (L.foldl Ngt.next N).tick = N.tick
  | [], N, pl, h, m, _ => ⟨fun k hk => absurd hk (Nat.not_lt_zero _), pl, h, m, fun _ _ => rfl, fun k hk => (by cases hk), rfl⟩
  | g :: L, N, pl, h, m, ht => by
    obtain ⟨g0, g1, hp⟩ := h.ue g (List.mem_cons_self ..)
    obtain ⟨n1, n2⟩ := List.nodup_cons.1 h.un
    have h1 := h.after hv hd
    have ht1 : (N.next g).tick = N.tick := (N.next_rest g).2.1
    obtain ⟨q1, pl', q2, q3, q4, q5, q7⟩ := Rl.afterL hv hd L (N.next g) _ h1 (m.next g) (by rw [ht1]; exact ht)
    refine ⟨fun k hk => ?_, pl', q2, q3, fun k hk => ?_, fun k hk => ?_, by rw [List.foldl_cons, q7, ht1]⟩
    · cases k with
      | zero => exact h.nxt_ok hv ht g0 g1
      | succ k => exact q1 k (by simpa using hk)
    · have hk1 : k ≠ g := fun c => hk (c ▸ List.mem_cons_self ..)
      rw [q4 k fun c => hk (List.mem_cons_of_mem _ c), plu_ne hk1]
    · rcases List.mem_cons.1 hk with rfl | hk
      · rw [q4 k n1, plu_same]
        have := wto_in w (wn G k) (N.pa k).wish
        omega
      · exact q5 k hk
end
theorem fillS_away (i : Int) : ∀ (q : List (Int × Int)) (F : Fl), (fillS i q F).away.length ≤ F.away.length + q.length
  | [], F => Nat.le_refl _
  | s :: q, F => by
    unfold fillS
    split
    · have := fillS_away i q (F.out s)
      have e : (F.out s).away.length = F.away.length + 1 := List.length_append
      simp only [List.length_cons]
      omega
    · split
      · split
        · have := fillS_away i q (F.keep s)
          have e : (F.keep s).away.length = F.away.length := rfl
          simp only [List.length_cons]
          omega
        · exact Nat.le_add_right _ _
      · have := fillS_away i q (F.ride i s)
        have e : (F.ride i s).away.length = F.away.length := rfl
        simp only [List.length_cons]
        omega
end Go.Proofs.Ytgcefaikdplbkaa
