/- Bounds of an evening as the reference plays it. No program in sight. -/
import Derived.Test.YtgcefaikdplbkaaRa1
namespace Go.Proofs.Ytgcefaikdplbkaa
open Go.RowKit

structure GsOk (q : Grp) (x : Gs) : Prop where
  w0 : -1 ≤ x.want
  w1 : x.want ≤ q.wants.length
  w2 : x.st ≠ 4 → x.want < q.wants.length
  w3 : x.st ≠ 0 → 0 ≤ x.want
  s : 0 ≤ x.since ∧ x.since ≤ 5000
  t : 0 ≤ x.tokens ∧ x.tokens ≤ 10000
/-- what holds whenever the reference plays; at most c visits -/
structure Pl.Ok (S : Pl) (c : Nat) : Prop where
  v : Val S.walk S.B S.G
  lg : S.guests.length = S.G.length
  lh : S.homes.length = S.G.length
  lq : S.queues.length = S.B.length
  lb : S.began.length = S.B.length
  le : S.ended.length = S.B.length
  lt : S.takes.length = S.B.length
  ll : S.lines.length = S.B.length
  nw : 0 ≤ S.now ∧ S.now ≤ 5000
  gs : ∀ g : Int, 0 ≤ g → g < S.G.length → GsOk (S.gr g) (S.gu g)
  qn : ∀ r : Int, 0 ≤ r → r < S.B.length → (S.qu r).Nodup
  qs : ∀ r : Int, 0 ≤ r → r < S.B.length → ∀ g ∈ S.qu r, 0 ≤ g ∧ g < S.G.length ∧ (S.gu g).st = 2 ∧ gt (S.gr g).wants (S.gu g).want = r
  vl : S.visits.length ≤ c
  tk : ∀ r : Int, 0 ≤ r → r < S.B.length → 0 ≤ gt S.takes r ∧ gt S.takes r ≤ 4000 * c
  be : ∀ r : Int, 0 ≤ r → r < S.B.length → -1 ≤ gt S.began r ∧ gt S.began r ≤ 5000
  en : ∀ r : Int, 0 ≤ r → r < S.B.length → -1 ≤ gt S.ended r ∧ gt S.ended r ≤ 5000
def Pl.free (S : Pl) (g : Int) : Prop := ∀ r : Int, 0 ≤ r → r < S.B.length → g ∉ S.qu r

theorem Val.bt {w : Int} {B : List BthG} {G : List Grp} (h : Val w B G) {r : Int} (r0 : 0 ≤ r) (r1 : r < B.length) : (1 ≤ (bd B r).seats ∧ (bd B r).seats ≤ 40) ∧ (0 ≤ (bd B r).price ∧ (bd B r).price ≤ 100) ∧ (1 ≤ (bd B r).cycle ∧ (bd B r).cycle ≤ 100) ∧ (0 ≤ (bd B r).pause ∧ (bd B r).pause ≤ 100) := by
  have hr : r.toNat < B.length := by omega
  have e : bd B r = B[r.toNat] := by unfold bd; simp [List.getD, hr]
  rw [e]
  exact h.b _ (List.getElem_mem hr)
theorem Val.gr {w : Int} {B : List BthG} {G : List Grp} (h : Val w B G) {g : Int} (r0 : 0 ≤ g) (r1 : g < G.length) : (0 ≤ (gd G g).came ∧ (gd G g).came ≤ 2000) ∧ (1 ≤ (gd G g).size ∧ (gd G g).size ≤ 40) ∧ (0 ≤ (gd G g).tokens ∧ (gd G g).tokens ≤ 10000) ∧ (gd G g).wants.length ≤ 10 ∧ (0 ≤ (gd G g).patience ∧ (gd G g).patience ≤ 2000) := by
  have hr : g.toNat < G.length := by omega
  have e : gd G g = G[g.toNat] := by unfold gd; simp [List.getD, hr]
  rw [e]
  obtain ⟨a, b, c, d, e, _⟩ := h.g _ (List.getElem_mem hr)
  exact ⟨a, b, c, d, e⟩

section
variable {S : Pl} {c : Nat} {g : Int}
theorem Pl.Ok.mono {c' : Nat} (h : S.Ok c) (hc : c ≤ c') : S.Ok c' := { h with vl := Nat.le_trans h.vl hc, tk := fun r r0 r1 => by have := h.tk r r0 r1; omega }
theorem Pl.Ok.want (h : S.Ok c) (hw : 0 ≤ (S.gu g).want) (hw1 : (S.gu g).want < (S.gr g).wants.length) : 0 ≤ gt (S.gr g).wants (S.gu g).want ∧ gt (S.gr g).wants (S.gu g).want < S.B.length := h.v.want hw hw1
theorem Pl.Ok.qlen (h : S.Ok c) {r : Int} (r0 : 0 ≤ r) (r1 : r < S.B.length) : (S.qu r).length ≤ 60 :=
  Nat.le_trans (nodup_range_len S.G.length _ (h.qn r r0 r1) fun x hx => by have := h.qs r r0 r1 x hx; omega) h.v.n
theorem Pl.Ok.free (h : S.Ok c) (hs : (S.gu g).st ≠ 2) : S.free g := fun r r0 r1 hm => hs (h.qs r r0 r1 g hm).2.2.1
theorem Pl.Ok.setG (h : S.Ok c) (g0 : 0 ≤ g) (g1 : g < S.G.length) (hf : S.free g) {x : Gs} (hx : GsOk (S.gr g) x) : (S.setG g x).Ok c := by
  have hgl : g.toNat < S.guests.length := by rw [h.lg]; omega
  refine { h with lg := ?_, gs := fun k k0 k1 => ?_, qs := fun r r0 r1 k hk => ?_ }
  · show (S.guests.set _ _).length = _
    rw [List.length_set]; exact h.lg
  · rw [Pl.gu_setG hgl]
    split
    · rename_i e
      rw [toNat_inj k0 g0] at e
      subst e
      exact hx
    · exact h.gs k k0 k1
  · have hk : k ∈ S.qu r := hk
    obtain ⟨a, b, d⟩ := h.qs r r0 r1 k hk
    refine ⟨a, b, ?_⟩
    rw [Pl.gu_setG hgl, if_neg fun e => hf r r0 r1 (by rw [toNat_inj a g0] at e; rw [← e]; exact hk)]
    exact d
theorem Pl.qu_setQ (S : Pl) {r i : Int} {q : List Int} (hr : r.toNat < S.queues.length) : (S.setQ r q).qu i = if i.toNat = r.toNat then q else S.qu i := getD_setq hr
theorem Pl.Ok.setQ (h : S.Ok c) {r : Int} (r0 : 0 ≤ r) (r1 : r < S.B.length) {q : List Int} (hn : q.Nodup) (hq : ∀ g ∈ q, 0 ≤ g ∧ g < S.G.length ∧ (S.gu g).st = 2 ∧ gt (S.gr g).wants (S.gu g).want = r) : (S.setQ r q).Ok c := by
  have hrl : r.toNat < S.queues.length := by rw [h.lq]; omega
  refine { h with lq := ?_, qn := fun i i0 i1 => ?_, qs := fun i i0 i1 => ?_ }
  · show (S.queues.set _ _).length = _
    rw [List.length_set]; exact h.lq
  · rw [Pl.qu_setQ S hrl]
    split
    · exact hn
    · exact h.qn i i0 i1
  · rw [Pl.qu_setQ S hrl]
    split
    · rename_i e
      rw [toNat_inj i0 r0] at e
      subst e
      exact hq
    · exact h.qs i i0 i1
theorem Pl.Ok.setH (h : S.Ok c) (t : Int) : (S.setH g t).Ok c := { h with lh := by show (S.homes.set _ _).length = _; rw [List.length_set]; exact h.lh }
theorem Pl.Ok.addV (h : S.Ok c) (x : Vis) : (S.addV x).Ok (c + 1) := { h with vl := by show (S.visits ++ [x]).length ≤ _; rw [List.length_append]; have := h.vl; exact Nat.add_le_add this (Nat.le_refl 1), tk := fun r r0 r1 => by have := h.tk r r0 r1; show 0 ≤ gt S.takes r ∧ gt S.takes r ≤ _; omega }
theorem Pl.Ok.stand (h : S.Ok c) (g0 : 0 ≤ g) (g1 : g < S.G.length) (hf : S.free g) (hw : 0 ≤ (S.gu g).want) (hw1 : (S.gu g).want < (S.gr g).wants.length) : (S.stand g).Ok c := by
  obtain ⟨q0, q1⟩ := h.want hw hw1
  have hg := h.gs g g0 g1
  have hgl : g.toNat < S.guests.length := by rw [h.lg]; omega
  have h1 := h.setG g0 g1 hf (x := { S.gu g with st := 2, since := S.now }) ⟨hg.w0, hg.w1, fun _ => hw1, fun _ => hw, h.nw, hg.t⟩
  refine h1.setQ q0 q1 ?_ ?_
  · rw [List.nodup_append]
    refine ⟨h.qn _ q0 q1, by simp, fun a ha b hb => ?_⟩
    rw [List.mem_singleton] at hb
    subst hb
    intro e
    subst e
    exact hf _ q0 q1 ha
  · intro k hk
    rcases List.mem_append.1 hk with hk | hk
    · exact h1.qs _ q0 q1 k hk
    · rw [List.mem_singleton] at hk
      subst hk
      rw [Pl.gu_setG hgl, if_pos rfl]
      exact ⟨g0, g1, rfl, rfl⟩
theorem Pl.Ok.on1 (h : S.Ok c) (g0 : 0 ≤ g) (g1 : g < S.G.length) (hf : S.free g) (hw1 : (S.gu g).want < (S.gr g).wants.length) (hw : ¬ ((S.gr g).wants.length : Int) ≤ (S.gu g).want + 1) : (S.setG g { S.gu g with want := (S.gu g).want + 1, since := S.now, st := 1 }).Ok c := by
  have hg := h.gs g g0 g1
  have := hg.w0
  exact h.setG g0 g1 hf ⟨by show _ ≤ (S.gu g).want + 1; omega, by show (S.gu g).want + 1 ≤ _; omega, fun _ => by show (S.gu g).want + 1 < _; omega, fun _ => by show 0 ≤ (S.gu g).want + 1; omega, h.nw, hg.t⟩
theorem Pl.Ok.on (h : S.Ok c) (g0 : 0 ≤ g) (g1 : g < S.G.length) (hf : S.free g) (hw1 : (S.gu g).want < (S.gr g).wants.length) : (S.on g).Ok c := by
  have hg := h.gs g g0 g1
  have hgl : g.toNat < S.guests.length := by rw [h.lg]; omega
  have := hg.w0
  unfold Pl.on
  split
  · exact (h.setG g0 g1 hf (x := { S.gu g with want := (S.gu g).want + 1, since := S.now, st := 4 }) ⟨by show _ ≤ (S.gu g).want + 1; omega, by show (S.gu g).want + 1 ≤ _; omega, fun e => absurd rfl e, fun _ => by show 0 ≤ (S.gu g).want + 1; omega, h.nw, hg.t⟩).setH _
  · rename_i hw
    have h1 := h.on1 g0 g1 hf hw1 hw
    split
    · refine h1.stand g0 g1 hf ?_ ?_
      · rw [Pl.gu_setG hgl, if_pos rfl]; show 0 ≤ (S.gu g).want + 1; omega
      · rw [Pl.gu_setG hgl, if_pos rfl]; show (S.gu g).want + 1 < ((S.gr g).wants.length : Int); omega
    · exact h1
theorem Pl.Ok.unq (h : S.Ok c) (g0 : 0 ≤ g) (g1 : g < S.G.length) (hs : (S.gu g).st = 2) (b : Bool) : (S.unq g b).Ok (c + 1) ∧ (S.unq g b).free g := by
  have hg := h.gs g g0 g1
  have hw := hg.w3 (by omega)
  have hw1 := hg.w2 (by omega)
  obtain ⟨q0, q1⟩ := h.want hw hw1
  have hrl : (gt (S.gr g).wants (S.gu g).want).toNat < S.queues.length := by rw [h.lq]; omega
  refine ⟨(h.setQ q0 q1 ((h.qn _ q0 q1).filter _) fun k hk => h.qs _ q0 q1 k (List.mem_filter.1 hk).1).addV _, ?_⟩
  intro r r0 r1 hm
  have hm : g ∈ (S.setQ (gt (S.gr g).wants (S.gu g).want) ((S.qu (gt (S.gr g).wants (S.gu g).want)).filter fun k => decide (k ≠ g))).qu r := hm
  rw [Pl.qu_setQ S hrl] at hm
  split at hm
  · have := (List.mem_filter.1 hm).2
    simp at this
  · rename_i e
    exact e (by rw [(h.qs r r0 r1 g hm).2.2.2])
theorem Pl.Ok.price (h : S.Ok c) (g0 : 0 ≤ g) (g1 : g < S.G.length) {r : Int} (q0 : 0 ≤ r) (q1 : r < S.B.length) : 0 ≤ (S.bt r).price * (S.gr g).size ∧ (S.bt r).price * (S.gr g).size ≤ 4000 := by
  obtain ⟨_, ⟨p0, p1⟩, _⟩ := h.v.bt q0 q1
  obtain ⟨_, ⟨s0, s1⟩, _⟩ := h.v.gr g0 g1
  refine ⟨Int.mul_nonneg p0 (by show 0 ≤ (gd S.G g).size; omega), ?_⟩
  exact Int.le_trans (Int.mul_le_mul p1 s1 (by show 0 ≤ (gd S.G g).size; omega) (by omega)) (by omega)
theorem Pl.Ok.setT (h : S.Ok c) {r t : Int} (r0 : 0 ≤ r) (r1 : r < S.B.length) (h0 : 0 ≤ t) (h1 : t ≤ 4000 * c) : (S.setT r t).Ok c := by
  refine { h with lt := ?_, tk := fun i i0 i1 => ?_ }
  · show (S.takes.set _ _).length = _
    rw [List.length_set]; exact h.lt
  · have hrl : r.toNat < S.takes.length := by rw [h.lt]; omega
    show 0 ≤ gt (S.takes.set r.toNat t) i ∧ gt (S.takes.set r.toNat t) i ≤ _
    have e : gt (S.takes.set r.toNat t) i = if i.toNat = r.toNat then t else gt S.takes i := by unfold gt; exact getD_setq hrl
    rw [e]
    split
    · exact ⟨h0, h1⟩
    · exact h.tk i i0 i1
theorem Pl.Ok.leave (h : S.Ok c) (g0 : 0 ≤ g) (g1 : g < S.G.length) (hs : (S.gu g).st = 2) {on : Bool} (hp : on = true → S.price g ≤ (S.gu g).tokens) : (S.leave g on).Ok (c + 1) := by
  have hg := h.gs g g0 g1
  have hw := hg.w3 (by omega)
  have hw1 := hg.w2 (by omega)
  obtain ⟨q0, q1⟩ := h.want hw hw1
  obtain ⟨u1, u2⟩ := h.unq g0 g1 hs on
  obtain ⟨p0, p1⟩ := h.price g0 g1 q0 q1
  have ht := h.tk _ q0 q1
  unfold Pl.leave
  split
  · rename_i e
    subst e
    refine (u1.setG g0 g1 u2 (x := { S.gu g with st := 3, since := S.now, tokens := (S.gu g).tokens - S.price g }) ⟨hg.w0, hg.w1, fun _ => hw1, fun _ => hw, h.nw, ?_⟩).setT q0 q1 ?_ ?_
    · have := hp rfl
      have := hg.t
      show 0 ≤ (S.gu g).tokens - S.price g ∧ (S.gu g).tokens - S.price g ≤ _
      unfold Pl.price at *
      omega
    · show 0 ≤ gt S.takes _ + (S.bt _).price * _
      omega
    · show gt S.takes _ + (S.bt _).price * _ ≤ _
      omega
  · rename_i e
    have : on = false := by cases on <;> simp_all
    subst this
    exact u1.on g0 g1 u2 hw1
theorem Pl.Ok.later (h : S.Ok c) {t : Int} (h0 : 0 ≤ t) (h1 : t ≤ 5000) : (S.later t).Ok c := { h with nw := ⟨h0, h1⟩ }
theorem Pl.Ok.setB (h : S.Ok c) {r t : Int} (r0 : 0 ≤ r) (r1 : r < S.B.length) (h0 : -1 ≤ t) (h1 : t ≤ 5000) : (S.setB r t).Ok c := by
  refine { h with lb := ?_, be := fun i i0 i1 => ?_ }
  · show (S.began.set _ _).length = _
    rw [List.length_set]; exact h.lb
  · have hrl : r.toNat < S.began.length := by rw [h.lb]; omega
    show -1 ≤ gt (S.began.set r.toNat t) i ∧ gt (S.began.set r.toNat t) i ≤ _
    have e : gt (S.began.set r.toNat t) i = if i.toNat = r.toNat then t else gt S.began i := by unfold gt; exact getD_setq hrl
    rw [e]
    split
    · exact ⟨h0, h1⟩
    · exact h.be i i0 i1
theorem Pl.Ok.endK (h : S.Ok c) (k : Nat) : (S.endK k).Ok c := by
  have hb := h.lb
  have he := h.le
  have hn := h.nw
  refine { h with lb := ?_, le := ?_, be := fun i i0 i1 => ?_, en := fun i i0 i1 => ?_ }
  · show ((List.range _).map _).length = _
    rw [List.length_map, List.length_range]; exact hb
  · show ((List.range _).map _).length = _
    rw [List.length_map, List.length_range]; exact he
  · have i1 : i < S.B.length := i1
    have := h.be i i0 i1
    show -1 ≤ gt ((List.range _).map _) i ∧ gt ((List.range _).map _) i ≤ _
    rw [gt_range i0 (by omega)]
    have e : ((i.toNat : Nat) : Int) = i := by omega
    split
    · omega
    · rw [e]; exact this
  · have i1 : i < S.B.length := i1
    have := h.en i i0 i1
    show -1 ≤ gt ((List.range _).map _) i ∧ gt ((List.range _).map _) i ≤ _
    rw [gt_range i0 (by omega)]
    have e : ((i.toNat : Nat) : Int) = i := by omega
    split
    · omega
    · rw [e]; exact this
theorem Pl.Ok.lineK (h : S.Ok c) (k : Nat) : (S.lineK k).Ok c := { h with ll := by show ((List.range _).map _).length = _; rw [List.length_map, List.length_range]; exact h.ll }
theorem Pl.Ok.init {w : Int} {B : List BthG} {G : List Grp} (hv : Val w B G) : (Pl.init w B G).Ok 0 := by
  have hz : ∀ (n : Nat) (x : Int) (r : Int), 0 ≤ r → r < n → gt (List.replicate n x) r = x := fun n x r r0 r1 => by
    have : r.toNat < n := by omega
    unfold gt
    simp [List.getD, this]
  have hq : ∀ r : Int, (Pl.init w B G).qu r = [] := fun r => by
    show (List.replicate B.length ([] : List Int)).getD r.toNat [] = []
    simp only [List.getD, List.getElem?_replicate]
    split <;> rfl
  refine { v := hv, lg := by simp [Pl.init], lh := by simp [Pl.init], lq := by simp [Pl.init], lb := by simp [Pl.init], le := by simp [Pl.init], lt := by simp [Pl.init], ll := by simp [Pl.init], nw := ⟨by simp [Pl.init], by simp [Pl.init]⟩, gs := fun g g0 g1 => ?_, qn := fun r _ _ => by rw [hq]; exact List.nodup_nil, qs := fun r _ _ k hk => by rw [hq] at hk; simp at hk, vl := by simp [Pl.init], tk := fun r r0 r1 => ?_, be := fun r r0 r1 => ?_, en := fun r r0 r1 => ?_ }
  · have g1 : g < G.length := g1
    have hg : g.toNat < G.length := by omega
    have e : (Pl.init w B G).gu g = ⟨0, -1, 0, (gd G g).tokens⟩ := by
      show (G.map _).getD g.toNat Gs.d = _
      unfold gd
      simp [List.getD, hg]
    rw [e]
    have := hv.gr g0 g1
    refine ⟨by show (-1 : Int) ≤ -1; omega, by show (-1 : Int) ≤ _; omega, fun _ => by show (-1 : Int) < _; omega, fun h => absurd rfl h, by show (0 : Int) ≤ 0 ∧ (0 : Int) ≤ 5000; omega, this.2.2.1⟩
  · show 0 ≤ gt (List.replicate B.length 0) r ∧ gt (List.replicate B.length 0) r ≤ _
    rw [hz B.length 0 r r0 r1]; omega
  · show -1 ≤ gt (List.replicate B.length (-1)) r ∧ gt (List.replicate B.length (-1)) r ≤ _
    rw [hz B.length (-1) r r0 r1]; omega
  · show -1 ≤ gt (List.replicate B.length (-1)) r ∧ gt (List.replicate B.length (-1)) r ≤ _
    rw [hz B.length (-1) r r0 r1]; omega
end
end Go.Proofs.Ytgcefaikdplbkaa
