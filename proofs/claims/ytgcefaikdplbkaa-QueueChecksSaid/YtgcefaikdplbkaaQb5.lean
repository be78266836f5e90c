/- The end of rides in both models. No program in sight. -/
import Derived.Test.YtgcefaikdplbkaaQb4
namespace Go.Proofs.Ytgcefaikdplbkaa
open Go.RowKit

def gd (G : List Grp) (g : Int) : Grp := G.getD g.toNat Grp.d
def bd (B : List BthG) (r : Int) : BthG := B.getD r.toNat BthG.d
def Pl.ends (S : Pl) (r : Int) : Bool := decide (0 ≤ gt S.began r) && decide (S.now - gt S.began r = (S.bt r).cycle)
def Pl.endK (S : Pl) (k : Nat) : Pl := { S with
  began := (List.range S.began.length).map fun i : Nat => if i < k ∧ S.ends i = true then -1 else gt S.began i,
  ended := (List.range S.ended.length).map fun i : Nat => if i < k ∧ S.ends i = true then S.now else gt S.ended i }
def Pl.off (S : Pl) (g : Int) : Bool := decide ((S.gu g).st = 3) && decide (gt S.ended (gt (S.gr g).wants (S.gu g).want) = S.now)
def Pl.end_ (S : Pl) : Pl := (ints S.G.length).foldl (fun S g => if S.off g = true then S.on g else S) (S.endK S.B.length)
theorem gt_range {n : Nat} {f : Nat → Int} {r : Int} (r0 : 0 ≤ r) (r1 : r < n) : gt ((List.range n).map f) r = f r.toNat := by
  have h : r.toNat < n := by omega
  unfold gt
  simp [List.getD, h]
theorem Pl.gu_setG_ne {S : Pl} {g k : Int} {x : Gs} (h : k.toNat ≠ g.toNat) : (S.setG g x).gu k = S.gu k := by
  unfold Pl.gu Pl.setG
  simp only [List.getD, List.getElem?_set]
  rw [if_neg fun h' => h h'.symm]
theorem Pl.on_ne {S : Pl} {g k : Int} (h : k.toNat ≠ g.toNat) : (S.on g).gu k = S.gu k := by
  unfold Pl.on
  split
  · exact Pl.gu_setG_ne h
  · split
    · show ((S.setG g _).setG g _).gu k = _
      rw [Pl.gu_setG_ne h, Pl.gu_setG_ne h]
    · exact Pl.gu_setG_ne h
theorem Pl.on_same (S : Pl) (g : Int) : (S.on g).G = S.G ∧ (S.on g).B = S.B ∧ (S.on g).now = S.now ∧ (S.on g).ended = S.ended ∧ (S.on g).began = S.began ∧ (S.on g).walk = S.walk := by
  unfold Pl.on
  split
  · exact ⟨rfl, rfl, rfl, rfl, rfl, rfl⟩
  · split <;> exact ⟨rfl, rfl, rfl, rfl, rfl, rfl⟩
theorem Pl.off_on (S : Pl) (g k : Int) (g0 : 0 ≤ g) (k0 : 0 ≤ k) (h : k ≠ g) : (S.on g).off k = S.off k := by
  obtain ⟨a1, _, a3, a4, _, _⟩ := S.on_same g
  unfold Pl.off Pl.gr
  rw [Pl.on_ne (by omega), a1, a3, a4]

theorem Ngt.endK_all (N : Ngt) {r : Int} (h : r.toNat < N.rides.length) : (N.endK N.rides.length).bo r = (N.bo r).end1 N.tick := by
  unfold Ngt.endK Ngt.bo
  simp [List.getD, h]
theorem Ngt.offK_mem (N : Ngt) {x : Int} : ∀ k : Nat, k ≤ N.rides.length → (x ∈ N.offK k ↔ ∃ r : Nat, r < k ∧ x ∈ (N.bo r).on ∧ (N.bo r).ends N.tick = true)
  | 0, _ => by simp [Ngt.offK]
  | k + 1, h => by
    rw [N.offK_succ (by omega), List.mem_append, N.offK_mem k (by omega)]
    unfold Bth.off
    constructor
    · rintro (⟨r, h1, h2⟩ | h1)
      · exact ⟨r, by omega, h2⟩
      · split at h1
        · rename_i he; exact ⟨k, by omega, h1, he⟩
        · cases h1
    · rintro ⟨r, h1, h2, h3⟩
      by_cases e : r = k
      · subst e; right; rw [if_pos h3]; exact h2
      · exact .inl ⟨r, by omega, h2, h3⟩

section
variable {w : Int} {B : List BthG} {G : List Grp} {d e : Int} {N : Ngt} {S : Pl} {pl : Int → Int} {up : List Int} {fx : Int}
theorem Rl.pl8 (h : Rl w B G d e N S pl up fx) {g : Int} (g0 : 0 ≤ g) (g1 : g < G.length) : 0 ≤ pl g ∧ pl g ≤ 7 := (h.gr g g0 g1).c8
theorem Rl.bv (h : Rl w B G d e N S pl up fx) (hv : Val w B G) {r : Int} (r0 : 0 ≤ r) (r1 : r < B.length) : (1 ≤ (N.bo r).b.seats ∧ (N.bo r).b.seats ≤ 40) ∧ (0 ≤ (N.bo r).b.price ∧ (N.bo r).b.price ≤ 100) ∧ (1 ≤ (N.bo r).b.cycle ∧ (N.bo r).b.cycle ≤ 100) ∧ (0 ≤ (N.bo r).b.pause ∧ (N.bo r).b.pause ≤ 100) := by
  rw [h.bb r0 r1]
  have hr : r.toNat < B.length := by omega
  have e2 : B.getD r.toNat BthG.d = B[r.toNat] := by simp [List.getD, hr]
  rw [e2]
  exact hv.b _ (List.getElem_mem hr)
theorem Rl.gv (h : Rl w B G d e N S pl up fx) (hv : Val w B G) {g : Int} (g0 : 0 ≤ g) (g1 : g < G.length) : (0 ≤ (N.pa g).g.came ∧ (N.pa g).g.came ≤ 2000) ∧ (1 ≤ (N.pa g).g.size ∧ (N.pa g).g.size ≤ 40) ∧ (0 ≤ (N.pa g).g.tokens ∧ (N.pa g).g.tokens ≤ 10000) ∧ (N.pa g).g.wants.length ≤ 10 ∧ (0 ≤ (N.pa g).g.patience ∧ (N.pa g).g.patience ≤ 2000) := by
  rw [h.pg g0 g1]
  have hr : g.toNat < G.length := by omega
  have e2 : G.getD g.toNat Grp.d = G[g.toNat] := by simp [List.getD, hr]
  rw [e2]
  obtain ⟨a1, a2, a3, a4, a5, _⟩ := hv.g _ (List.getElem_mem hr)
  exact ⟨a1, a2, a3, a4, a5⟩
theorem RG.st_of {w t : Int} {W : List Int} {n : Pty} {s : Gs} {h p : Int} (r : RG w t W n s h p) (hp : p ≤ 4) : s.st = p := by
  have := r.c8
  have h0 := r.c0
  have h1 := r.c1
  have h2 := r.c2
  have h3 := r.c3
  have h4 := r.c4
  rcases (by omega : p = 0 ∨ p = 1 ∨ p = 2 ∨ p = 3 ∨ p = 4) with c | c | c | c | c
  · rw [(h0 c).1, c]
  · rw [(h1 c).1, c]
  · rw [(h2 c).1, c]
  · rw [(h3 c).1, c]
  · rw [h4 c, c]
theorem Rl.offK_nodup (h : Rl w B G d e N S pl up fx) : ∀ k : Nat, k ≤ N.rides.length → (N.offK k).Nodup
  | 0, _ => by simp [Ngt.offK]
  | k + 1, hk => by
    have hr := h.nr
    rw [N.offK_succ (by omega)]
    refine List.nodup_append.2 ⟨h.offK_nodup k (by omega), ?_, fun a ha b hb => ?_⟩
    · unfold Bth.off
      split
      · exact h.on k (by omega) (by omega)
      · exact List.nodup_nil
    · obtain ⟨r, r1, r2, _⟩ := (N.offK_mem k (by omega)).1 ha
      have hb : b ∈ (N.bo k).on := by
        unfold Bth.off at hb
        split at hb
        · exact hb
        · cases hb
      rintro rfl
      have h1 := (h.oe r (by omega) (by omega) a r2).2.2.2
      have h2 := (h.oe k (by omega) (by omega) a hb).2.2.2
      omega
theorem Rl.ends_eq (h : Rl w B G d e N S pl up (-1)) {r : Int} (r0 : 0 ≤ r) (r1 : r < B.length) : S.ends r = (N.bo r).ends N.tick := by
  obtain ⟨a1, a2, a3, a4, a5⟩ := h.rb r r0 r1
  have a3 := a3 (by omega)
  have hb : (S.bt r).cycle = (N.bo r).b.cycle := by rw [h.bb r0 r1]; unfold Pl.bt; rw [h.sb]
  unfold Pl.ends Bth.ends
  rw [a3, hb, h.tk]
  by_cases c : (N.bo r).on = []
  · rw [if_pos c, decide_eq_false (show ¬ (0 : Int) ≤ -1 by omega), c]
    simp
  · rw [if_neg c, decide_eq_true a1, decide_eq_true (show 0 < (N.bo r).on.length from List.length_pos_iff.2 c), Bool.true_and, Bool.true_and]
    exact decide_eq_decide.2 (by omega)

theorem Rl.endsK (h : Rl w B G 0 0 N S pl [] (-1)) (hreg : ∀ g : Int, 0 ≤ g → g < G.length → pl g ≤ 4) : Rl w B G 0 1 (N.endK N.rides.length) (S.endK S.B.length) (fun g => if g ∈ N.offK N.rides.length then 5 else pl g) [] (-1) := by
  have hnr := h.nr
  have hO := fun x => N.offK_mem (x := x) N.rides.length (Nat.le_refl _)
  have hbo : ∀ r : Int, 0 ≤ r → r < B.length → (N.endK N.rides.length).bo r = (N.bo r).end1 N.tick := fun r r0 r1 => N.endK_all (by omega)
  have hO3 : ∀ g, g ∈ N.offK N.rides.length → 0 ≤ g ∧ g < G.length ∧ pl g = 3 ∧ ∃ r : Nat, r < B.length ∧ gt (wn G g) ((N.pa g).wish - 1) = r ∧ g ∈ (N.bo r).on ∧ (N.bo r).ends N.tick = true := fun g hg => by
    obtain ⟨r, r1, r2, r3⟩ := (hO g).1 hg
    obtain ⟨b1, b2, b3, b4⟩ := h.oe r (by omega) (by omega) g r2
    exact ⟨b1, b2, b3, r, by omega, b4, r2, r3⟩
  have hpn : ∀ k, pl k ≠ 3 → (if k ∈ N.offK N.rides.length then 5 else pl k) = pl k := fun k hk => if_neg fun hm => hk (hO3 k hm).2.2.1
  have hpp : ∀ (k p : Int), p ≠ 5 → (if k ∈ N.offK N.rides.length then 5 else pl k) = p → pl k = p ∧ k ∉ N.offK N.rides.length := fun k p hp hk => by
    split at hk
    · omega
    · rename_i hn; exact ⟨hk, hn⟩
  have e1 : ∀ t (x : Bth), (x.end1 t).queue = x.queue ∧ (x.end1 t).begun = x.begun ∧ (x.end1 t).b = x.b ∧ (x.end1 t).takes = x.takes ∧ (x.end1 t).line = x.line := fun t x => by
    unfold Bth.end1
    split <;> exact ⟨rfl, rfl, rfl, rfl, rfl⟩
  have harr : ∀ M r, arr w G M [] r = [] := fun M r => by unfold arr; split <;> rfl
  have hbe : ∀ r : Int, 0 ≤ r → r < B.length → gt (S.endK S.B.length).began r = if (N.bo r).ends N.tick = true then -1 else gt S.began r := fun r r0 r1 => by
    show gt ((List.range _).map _) r = _
    rw [gt_range r0 (by rw [h.lb]; exact r1), h.sb]
    have : ((r.toNat : Nat) : Int) = r := by omega
    rw [this, h.ends_eq r0 r1]
    by_cases c : (N.bo r).ends N.tick = true
    · rw [if_pos c, if_pos ⟨by omega, c⟩]
    · rw [if_neg c, if_neg fun h' => c h'.2]
  have hen : ∀ r : Int, 0 ≤ r → r < B.length → gt (S.endK S.B.length).ended r = if (N.bo r).ends N.tick = true then N.tick else gt S.ended r := fun r r0 r1 => by
    show gt ((List.range _).map _) r = _
    rw [gt_range r0 (by rw [h.le]; exact r1), h.sb]
    have : ((r.toNat : Nat) : Int) = r := by omega
    rw [this, h.ends_eq r0 r1, h.tk]
    by_cases c : (N.bo r).ends N.tick = true
    · rw [if_pos c, if_pos ⟨by omega, c⟩]
    · rw [if_neg c, if_neg fun h' => c h'.2]
  refine { nw := h.nw, nb := ?_, ng := h.ng, sw := h.sw, sb := h.sb, sg := h.sg, lg := h.lg, lh := h.lh, lq := h.lq, lb := by show ((List.range _).map _).length = _; rw [List.length_map, List.length_range]; exact h.lb, le := by show ((List.range _).map _).length = _; rw [List.length_map, List.length_range]; exact h.le, lt := h.lt, ll := h.ll, tk := h.tk, t0 := h.t0, vs := h.vs, gr := ?_, wk := ?_, qu := ?_, ql := ?_, qe := ?_, qn := ?_, qc := ?_, oe := ?_, on := ?_, oc := ?_, re := ?_, rb := ?_, rt := ?_, ue := fun k hk => (by cases hk), un := List.nodup_nil, uc := ?_ }
  · rw [← h.nb]
    unfold Ngt.endK
    simp only [List.take_length, List.drop_length, List.append_nil, List.map_map]
    apply List.map_congr_left
    intro x _
    exact (e1 N.tick x).2.2.1
  · intro k k0 k1
    have hr := h.gr k k0 k1
    show RG w N.tick (wn G k) (N.pa k) (S.gu k) (gt S.homes k) _
    by_cases c : k ∈ N.offK N.rides.length
    · rw [if_pos c]
      have h3 := (hO3 k c).2.2.1
      have hc3 := hr.c3 h3
      refine ⟨hr.w0, hr.w1, hr.tk, fun _ => hr.cm (by omega), ?_, fun h' => by omega, fun h' => by omega, fun h' => by omega, fun h' => by omega, fun h' => by omega, fun _ => hc3.2.1, fun h' => by omega, fun h' => by omega, by omega⟩
      rcases hr.hm with h' | h'
      · exact .inl h'
      · omega
    · rw [if_neg c]; exact hr
  · intro k k0 k1 hk
    exact h.wk k k0 k1 (hpp k 1 (by omega) hk).1
  · intro r r0 r1
    rw [hbo r r0 r1, (e1 _ _).1, harr, List.append_nil]
    have h1 := h.qu r r0 r1
    rw [harr, List.append_nil] at h1
    rw [← h1]
    apply List.filter_congr
    intro k _
    by_cases c : k ∈ N.offK N.rides.length
    · have h3 := (hO3 k c).2.2.1
      rw [if_pos c, decide_eq_true (show (5 : Int) ≠ 6 by omega), decide_eq_true (show pl k ≠ 6 by omega)]
    · rw [if_neg c]
  · intro r r0 r1 k hk
    obtain ⟨a1, a2, a3⟩ := h.ql r r0 r1 k hk
    exact ⟨a1, a2, fun h6 => a3 (hpp k 6 (by omega) h6).1⟩
  · intro r r0 r1 x hx
    rw [hbo r r0 r1, (e1 _ _).1] at hx
    obtain ⟨a1, a2, a3, a4, a5⟩ := h.qe r r0 r1 x hx
    exact ⟨a1, a2, by rw [hpn _ (by omega)]; exact a3, a4, a5⟩
  · intro r r0 r1
    rw [hbo r r0 r1, (e1 _ _).1]
    exact h.qn r r0 r1
  · intro k k0 k1 hk
    obtain ⟨h2, _⟩ := hpp k 2 (by omega) hk
    have hm := h.qc k k0 k1 h2
    show _ ∈ ((N.endK N.rides.length).bo (gt (wn G k) (N.pa k).wish)).queue
    by_cases hr : (gt (wn G k) (N.pa k).wish).toNat < N.rides.length
    · rw [N.endK_all hr, (e1 _ _).1]
      exact hm
    · exfalso
      have : N.bo (gt (wn G k) (N.pa k).wish) = Bth.d := by unfold Ngt.bo; simp [List.getD, hr]
      rw [this] at hm
      cases hm
  · intro r r0 r1 k hk
    rw [hbo r r0 r1] at hk
    unfold Bth.end1 at hk
    split at hk
    · cases hk
    · rename_i hne
      obtain ⟨a1, a2, a3, a4⟩ := h.oe r r0 r1 k hk
      refine ⟨a1, a2, ?_, a4⟩
      rw [if_neg fun hm => ?_]
      · exact a3
      · obtain ⟨_, _, _, r', q1, q2, q3, q4⟩ := hO3 k hm
        have : (r' : Int) = r := by omega
        rw [this] at q4
        exact hne q4
  · intro r r0 r1
    rw [hbo r r0 r1]
    unfold Bth.end1
    split
    · exact List.nodup_nil
    · exact h.on r r0 r1
  · intro k k0 k1 hk
    obtain ⟨h2, h3⟩ := hpp k 3 (by omega) hk
    have hm := h.oc k k0 k1 h2
    show _ ∈ ((N.endK N.rides.length).bo (gt (wn G k) ((N.pa k).wish - 1))).on
    by_cases hr : (gt (wn G k) ((N.pa k).wish - 1)).toNat < N.rides.length
    · rw [N.endK_all hr]
      have hne : ¬ (N.bo (gt (wn G k) ((N.pa k).wish - 1))).ends N.tick = true := fun he => h3 ((hO k).2 ⟨(gt (wn G k) ((N.pa k).wish - 1)).toNat, hr, hm, he⟩)
      unfold Bth.end1
      rw [if_neg hne]
      exact hm
    · exfalso
      have : N.bo (gt (wn G k) ((N.pa k).wish - 1)) = Bth.d := by unfold Ngt.bo; simp [List.getD, hr]
      rw [this] at hm
      cases hm
  · intro r r0 r1
    obtain ⟨a1, a2, a3⟩ := h.re r r0 r1
    have ht := h.t0
    show gt (S.endK S.B.length).ended r = _ ∧ _ ∧ _ ≤ N.tick - 1 + 1
    rw [hbo r r0 r1, hen r r0 r1]
    unfold Bth.end1
    split
    · exact ⟨rfl, by show -1 ≤ N.tick; omega, by show N.tick ≤ _; omega⟩
    · exact ⟨a1, a2, by omega⟩
  · intro r r0 r1
    obtain ⟨a1, a2, a3, a4, a5⟩ := h.rb r r0 r1
    show 0 ≤ ((N.endK N.rides.length).bo r).begun ∧ ((N.endK N.rides.length).bo r).begun ≤ N.tick ∧ _ ∧ (_ → _ → N.tick + 1 ≤ _) ∧ _
    rw [hbo r r0 r1, hbe r r0 r1, (e1 _ _).2.1, (e1 _ _).2.2.1]
    refine ⟨a1, a2, fun hf => ?_, fun hf hon => ?_, fun hf => by omega⟩
    · unfold Bth.end1
      by_cases c : (N.bo r).ends N.tick = true
      · rw [if_pos c, if_pos c, if_pos rfl]
      · rw [if_neg c, if_neg c]
        exact a3 hf
    · unfold Bth.end1 at hon
      by_cases c : (N.bo r).ends N.tick = true
      · rw [if_pos c] at hon; exact absurd rfl hon
      · rw [if_neg c] at hon
        have h4 := a4 hf hon
        unfold Bth.ends at c
        rw [decide_eq_true (show 0 < (N.bo r).on.length from List.length_pos_iff.2 hon), Bool.true_and] at c
        have c : ¬ (N.bo r).begun + (N.bo r).b.cycle = N.tick := fun h' => c (decide_eq_true h')
        omega
  · intro r r0 r1
    rw [hbo r r0 r1, (e1 _ _).2.2.2.1, (e1 _ _).2.2.2.2]
    exact h.rt r r0 r1
  · intro k k0 k1 hk
    exact h.uc k k0 k1 (hpp k 7 (by omega) hk).1

theorem Rl.end_ (h : Rl w B G 0 0 N S pl [] (-1)) (hv : Val w B G) (m : Mo G N) (ht : N.tick ≤ 4000) (hreg : ∀ g : Int, 0 ≤ g → g < G.length → pl g ≤ 4) :
    EndOK N ∧ ∃ pl', Rl w B G 0 1 N.end_ S.end_ pl' [] (-1) ∧ Mo G N.end_ ∧ N.end_.tick = N.tick ∧ ∀ g : Int, 0 ≤ g → g < G.length → pl' g ≤ 4 ∧ (pl' g = 0 ↔ pl g = 0) := by
  have h1 := h.endsK hreg
  have hnr := h.nr
  have hO := fun x => N.offK_mem (x := x) N.rides.length (Nat.le_refl _)
  have hnd := h.offK_nodup N.rides.length (Nat.le_refl _)
  have hmo : ∀ x, x ∈ N.off ↔ x ∈ N.offK N.rides.length := fun x => mem_sortB
  have hnd2 : N.off.Nodup := (sortB_perm _ _).nodup_iff.2 hnd
  have hm1 : Mo G (N.endK N.rides.length) := by
    refine m.keep rfl ?_ rfl rfl rfl (Int.le_refl _)
    unfold Ngt.takesL Ngt.endK
    simp only [List.take_length, List.drop_length, List.append_nil, List.map_map]
    apply List.map_congr_left
    intro x _
    show (x.end1 _).takes = x.takes
    unfold Bth.end1
    split <;> rfl
  have hin : ∀ g ∈ N.off, 0 ≤ g ∧ g < G.length ∧ (if g ∈ N.offK N.rides.length then (5 : Int) else pl g) = 5 := fun g hg => by
    have hg' := (hmo g).1 hg
    obtain ⟨r, r1, r2, r3⟩ := (hO g).1 hg'
    obtain ⟨b1, b2, b3, b4⟩ := h.oe r (by omega) (by omega) g r2
    exact ⟨b1, b2, if_pos hg'⟩
  obtain ⟨q1, pl', q2, q3, q4, q5, q6, q7⟩ := Rl.goes hv (by omega) N.off _ _ _ h1 hm1 (show N.tick ≤ 5000 by omega) hin hnd2
  have hS : S.end_ = N.off.foldl Pl.on (S.endK S.B.length) := by
    unfold Pl.end_
    rw [cond_fold (c := Pl.off) (f := Pl.on) Pl.off_on _ _ (ints_nodup _) fun g hg => (ints_mem.1 hg).1]
    congr 1
    refine sorted_ext ((ints_sorted _).sublist List.filter_sublist) (isort_sorted hnd) fun g => ?_
    rw [List.mem_filter, ints_mem, h.sg]
    show _ ↔ g ∈ N.off
    rw [hmo]
    have hoff : ∀ (g0 : 0 ≤ g) (g1 : g < G.length), (S.endK S.B.length).off g = true ↔ (S.gu g).st = 3 ∧ gt (S.endK S.B.length).ended (gt (wn G g) (S.gu g).want) = N.tick := fun g0 g1 => by
      unfold Pl.off
      rw [Bool.and_eq_true, decide_eq_true_eq, decide_eq_true_eq]
      show (S.gu g).st = 3 ∧ gt _ (gt (S.gr g).wants (S.gu g).want) = S.now ↔ _
      rw [h.sgw, h.tk]
    constructor
    · rintro ⟨⟨g0, g1⟩, ho⟩
      obtain ⟨o1, o2⟩ := (hoff g0 g1).1 ho
      have hr := h.gr g g0 g1
      have h3 : pl g = 3 := by rw [← hr.st_of (hreg g g0 g1)]; exact o1
      obtain ⟨c1, c2, c3⟩ := hr.c3 h3
      have hw1 := hr.w1
      have hvw := hv.want (g := g) (k := (S.gu g).want) c3 (by omega)
      have ew : (N.pa g).wish - 1 = (S.gu g).want := by omega
      have hoc := h.oc g g0 g1 h3
      rw [ew] at hoc
      obtain ⟨z1, z2, z3⟩ := h1.re _ hvw.1 hvw.2
      rw [N.endK_all (by omega)] at z1
      rw [o2] at z1
      refine (hO g).2 ⟨(gt (wn G g) (S.gu g).want).toNat, by omega, hoc, ?_⟩
      have hre := h.re _ hvw.1 hvw.2
      unfold Bth.end1 at z1
      by_cases c : (N.bo (gt (wn G g) (S.gu g).want)).ends N.tick = true
      · exact c
      · rw [if_neg c] at z1
        omega
    · intro hg
      obtain ⟨r, r1, r2, r3⟩ := (hO g).1 hg
      obtain ⟨b1, b2, b3, b4⟩ := h.oe r (by omega) (by omega) g r2
      have hr := h.gr g b1 b2
      obtain ⟨c1, c2, c3⟩ := hr.c3 b3
      refine ⟨⟨b1, b2⟩, (hoff b1 b2).2 ⟨c1, ?_⟩⟩
      have ew : (S.gu g).want = (N.pa g).wish - 1 := by omega
      rw [ew, b4]
      obtain ⟨z1, z2, z3⟩ := h1.re r (by omega) (by omega)
      rw [N.endK_all (by omega)] at z1
      rw [z1]
      unfold Bth.end1
      rw [if_pos r3]
  refine ⟨⟨fun i => by have := h.olen i; have := hv.n; omega, fun i => ?_, q1⟩, pl', ?_, q3, q7, fun g g0 g1 => ?_⟩
  · by_cases hi : i.toNat < N.rides.length
    · have e0 : N.bo i = N.bo (i.toNat : Int) := rfl
      have hi' : i.toNat < B.length := by omega
      rw [e0]
      obtain ⟨a1, a2, _⟩ := h.rb i.toNat (by omega) (by omega)
      have hcy := (h.bv hv (r := (i.toNat : Int)) (by omega) (by omega)).2.2.1
      omega
    · have : N.bo i = Bth.d := by unfold Ngt.bo; simp [List.getD, hi]
      rw [this]
      exact ⟨by decide, by decide⟩
  · rw [hS]
    exact q2
  · by_cases c : g ∈ N.off
    · have h5 := q5 g c
      obtain ⟨r, r1, r2, r3⟩ := (hO g).1 ((hmo g).1 c)
      have h3 := (h.oe r (by omega) (by omega) g r2).2.2.1
      rcases h5 with h5 | h5 | h5 <;> omega
    · rw [q4 g c, if_neg fun hm => c ((hmo g).2 hm)]
      exact ⟨hreg g g0 g1, Iff.rfl⟩
end
end Go.Proofs.Ytgcefaikdplbkaa
