/- The plain model of an evening as the reference plays it; how both models stand to each other. No program in sight. -/
import Derived.Test.YtgcefaikdplbkaaQa7
namespace Go.Proofs.Ytgcefaikdplbkaa
open Go.RowKit

structure Gs where
  st : Int
  want : Int
  since : Int
  tokens : Int
structure Pl where
  walk : Int
  B : List BthG
  G : List Grp
  now : Int
  guests : List Gs
  queues : List (List Int)
  began : List Int
  ended : List Int
  visits : List Vis
  takes : List Int
  lines : List Int
  homes : List Int
def Gs.d : Gs := ⟨0, 0, 0, 0⟩
def Grp.d : Grp := ⟨0, 0, 0, [], 0⟩
def BthG.d : BthG := ⟨0, 0, 0, 0, false⟩
def Pl.gu (S : Pl) (g : Int) : Gs := S.guests.getD g.toNat Gs.d
def Pl.qu (S : Pl) (r : Int) : List Int := S.queues.getD r.toNat []
def Pl.gr (S : Pl) (g : Int) : Grp := S.G.getD g.toNat Grp.d
def Pl.bt (S : Pl) (r : Int) : BthG := S.B.getD r.toNat BthG.d
def Pl.setG (S : Pl) (g : Int) (x : Gs) : Pl := { S with guests := S.guests.set g.toNat x }
def Pl.setQ (S : Pl) (r : Int) (q : List Int) : Pl := { S with queues := S.queues.set r.toNat q }
def Pl.setH (S : Pl) (g : Int) (h : Int) : Pl := { S with homes := S.homes.set g.toNat h }
def Pl.addV (S : Pl) (v : Vis) : Pl := { S with visits := S.visits ++ [v] }
def Pl.setT (S : Pl) (r : Int) (t : Int) : Pl := { S with takes := S.takes.set r.toNat t }

def Pl.stand (S : Pl) (g : Int) : Pl :=
  (S.setG g { S.gu g with st := 2, since := S.now }).setQ (gt (S.gr g).wants (S.gu g).want) (S.qu (gt (S.gr g).wants (S.gu g).want) ++ [g])
def Pl.on (S : Pl) (g : Int) : Pl :=
  if (S.gr g).wants.length ≤ (S.gu g).want + 1 then (S.setG g { S.gu g with want := (S.gu g).want + 1, since := S.now, st := 4 }).setH g S.now
  else if S.walk = 0 then (S.setG g { S.gu g with want := (S.gu g).want + 1, since := S.now, st := 1 }).stand g
  else S.setG g { S.gu g with want := (S.gu g).want + 1, since := S.now, st := 1 }
/-- out of a queue -/
def Pl.unq (S : Pl) (g : Int) (on : Bool) : Pl :=
  (S.setQ (gt (S.gr g).wants (S.gu g).want) ((S.qu (gt (S.gr g).wants (S.gu g).want)).filter fun k => decide (k ≠ g))).addV (g, (S.gu g).want, gt (S.gr g).wants (S.gu g).want, on, (S.gu g).since, S.now)
def Pl.price (S : Pl) (g : Int) : Int := (S.bt (gt (S.gr g).wants (S.gu g).want)).price * (S.gr g).size
def Pl.leave (S : Pl) (g : Int) (on : Bool) : Pl :=
  if on = true then ((S.unq g true).setG g { S.gu g with st := 3, since := S.now, tokens := (S.gu g).tokens - S.price g }).setT (gt (S.gr g).wants (S.gu g).want) (gt S.takes (gt (S.gr g).wants (S.gu g).want) + S.price g)
  else (S.unq g false).on g

/-- a valid evening and valid groups -/
structure Val (w : Int) (B : List BthG) (G : List Grp) : Prop where
  w : 0 ≤ w ∧ w ≤ 100
  m : B.length ≤ 8
  b : ∀ b ∈ B, (1 ≤ b.seats ∧ b.seats ≤ 40) ∧ (0 ≤ b.price ∧ b.price ≤ 100) ∧ (1 ≤ b.cycle ∧ b.cycle ≤ 100) ∧ (0 ≤ b.pause ∧ b.pause ≤ 100)
  n : G.length ≤ 60
  g : ∀ g ∈ G, (0 ≤ g.came ∧ g.came ≤ 2000) ∧ (1 ≤ g.size ∧ g.size ≤ 40) ∧ (0 ≤ g.tokens ∧ g.tokens ≤ 10000) ∧ g.wants.length ≤ 10 ∧ (0 ≤ g.patience ∧ g.patience ≤ 2000) ∧ ∀ x ∈ g.wants, 0 ≤ x ∧ x < B.length
/-- the groups' wishes -/
def wn (G : List Grp) (g : Int) : List Int := (G.getD g.toNat Grp.d).wants
theorem Val.want {w : Int} {B : List BthG} {G : List Grp} (h : Val w B G) {g k : Int} (h0 : 0 ≤ k) (h1 : k < (wn G g).length) : 0 ≤ gt (wn G g) k ∧ gt (wn G g) k < B.length := by
  have hg : g.toNat < G.length := by
    by_cases hg : g.toNat < G.length
    · exact hg
    · have : wn G g = [] := by
        unfold wn
        have e : G.getD g.toNat Grp.d = Grp.d := by simp [List.getD, hg]
        rw [e]
        rfl
      rw [this] at h1
      simp at h1
      omega
  have e : wn G g = G[g.toNat].wants := by unfold wn; simp [List.getD, hg]
  have hk : k.toNat < (wn G g).length := by omega
  rw [gt_eq hk]
  have hm : (wn G g)[k.toNat] ∈ G[g.toNat].wants := by rw [← e]; exact List.getElem_mem hk
  exact (h.g _ (List.getElem_mem hg)).2.2.2.2.2 _ hm

/-- a group in both models. p is where it is: 0 away, 1 walks, 2 in a queue, 3 on a ride, 4 at home; 5 in hand; 6 out of its queue in the program's model alone; 7 gone on in the reference's model alone. -/
structure RG (w t : Int) (W : List Int) (n : Pty) (s : Gs) (h p : Int) : Prop where
  w0 : 0 ≤ n.wish
  w1 : n.wish ≤ W.length
  tk : s.tokens = n.purse
  cm : p ≠ 1 → n.comes = -1
  hm : h = n.home ∨ p = 7 ∧ n.wish = W.length
  c0 : p = 0 → s.st = 0 ∧ s.want = -1 ∧ n.wish = 0
  c1 : p = 1 → s.st = 1 ∧ s.want = n.wish ∧ n.wish < W.length ∧ n.comes = s.since + w ∧ w ≠ 0 ∧ 0 ≤ s.since ∧ s.since ≤ t
  c2 : p = 2 → s.st = 2 ∧ s.want = n.wish ∧ n.wish < W.length ∧ 0 ≤ s.since ∧ s.since ≤ t
  c3 : p = 3 → s.st = 3 ∧ s.want + 1 = n.wish ∧ 0 ≤ s.want
  c4 : p = 4 → s.st = 4
  c5 : p = 5 → s.want + 1 = n.wish
  c6 : p = 6 → s.st = 2 ∧ s.want = n.wish ∧ n.wish < W.length ∧ 0 ≤ s.since ∧ s.since ≤ t
  c7 : p = 7 → (n.wish = W.length → s.st = 4 ∧ h = t) ∧ (n.wish < W.length → w = 0 → s.st = 2 ∧ s.want = n.wish ∧ s.since = t) ∧ (n.wish < W.length → w ≠ 0 → s.st = 1 ∧ s.want = n.wish ∧ s.since = t)
  c8 : 0 ≤ p ∧ p ≤ 7

/-- who will stand in a queue -/
def arr (w : Int) (G : List Grp) (N : Ngt) (up : List Int) (r : Int) : List Int :=
  if w = 0 then up.filter fun g => decide ((N.pa g).wish < (wn G g).length ∧ gt (wn G g) (N.pa g).wish = r) else []
/-- both models. up: who is ahead in the reference's; fx: the ride that is being filled. -/
structure Rl (w : Int) (B : List BthG) (G : List Grp) (d e : Int) (N : Ngt) (S : Pl) (pl : Int → Int) (up : List Int) (fx : Int) : Prop where
  nw : N.walk = w
  nb : N.rides.map Bth.b = B
  ng : N.parties.map Pty.g = G
  sw : S.walk = w
  sb : S.B = B
  sg : S.G = G
  lg : S.guests.length = G.length
  lh : S.homes.length = G.length
  lq : S.queues.length = B.length
  lb : S.began.length = B.length
  le : S.ended.length = B.length
  lt : S.takes.length = B.length
  ll : S.lines.length = B.length
  tk : S.now = N.tick
  t0 : 0 ≤ N.tick
  vs : S.visits = N.visits
  gr : ∀ g : Int, 0 ≤ g → g < G.length → RG w N.tick (wn G g) (N.pa g) (S.gu g) (gt S.homes g) (pl g)
  wk : ∀ g : Int, 0 ≤ g → g < G.length → pl g = 1 → N.tick + d ≤ (N.pa g).comes
  qu : ∀ r : Int, 0 ≤ r → r < B.length → (S.qu r).filter (fun g => decide (pl g ≠ 6)) = (N.bo r).queue.map Prod.fst ++ arr w G N up r
  ql : ∀ r : Int, 0 ≤ r → r < B.length → ∀ g ∈ S.qu r, 0 ≤ g ∧ g < G.length ∧ (pl g = 6 → gt (wn G g) (N.pa g).wish = r)
  qe : ∀ r : Int, 0 ≤ r → r < B.length → ∀ x ∈ (N.bo r).queue, 0 ≤ x.1 ∧ x.1 < G.length ∧ pl x.1 = 2 ∧ gt (wn G x.1) (N.pa x.1).wish = r ∧ x.2 = (S.gu x.1).since
  qn : ∀ r : Int, 0 ≤ r → r < B.length → ((N.bo r).queue.map Prod.fst).Nodup
  qc : ∀ g : Int, 0 ≤ g → g < G.length → pl g = 2 → (g, (S.gu g).since) ∈ (N.bo (gt (wn G g) (N.pa g).wish)).queue
  oe : ∀ r : Int, 0 ≤ r → r < B.length → ∀ g ∈ (N.bo r).on, 0 ≤ g ∧ g < G.length ∧ pl g = 3 ∧ gt (wn G g) ((N.pa g).wish - 1) = r
  on : ∀ r : Int, 0 ≤ r → r < B.length → (N.bo r).on.Nodup
  oc : ∀ g : Int, 0 ≤ g → g < G.length → pl g = 3 → g ∈ (N.bo (gt (wn G g) ((N.pa g).wish - 1))).on
  re : ∀ r : Int, 0 ≤ r → r < B.length → gt S.ended r = (N.bo r).ended ∧ -1 ≤ (N.bo r).ended ∧ (N.bo r).ended ≤ N.tick - 1 + e
  rb : ∀ r : Int, 0 ≤ r → r < B.length → 0 ≤ (N.bo r).begun ∧ (N.bo r).begun ≤ N.tick ∧ (r ≠ fx → gt S.began r = if (N.bo r).on = [] then -1 else (N.bo r).begun) ∧ (r ≠ fx → (N.bo r).on ≠ [] → N.tick + e ≤ (N.bo r).begun + (N.bo r).b.cycle) ∧ (r = fx → gt S.began r = -1)
  rt : ∀ r : Int, 0 ≤ r → r < B.length → gt S.takes r = (N.bo r).takes ∧ gt S.lines r = (N.bo r).line
  ue : ∀ g ∈ up, 0 ≤ g ∧ g < G.length ∧ pl g = 7
  un : up.Nodup
  uc : ∀ g : Int, 0 ≤ g → g < G.length → pl g = 7 → g ∈ up

def plu (pl : Int → Int) (g p : Int) : Int → Int := fun k => if k = g then p else pl k
theorem plu_same {pl : Int → Int} {g p : Int} : plu pl g p g = p := if_pos rfl
theorem plu_ne {pl : Int → Int} {g p k : Int} (h : k ≠ g) : plu pl g p k = pl k := if_neg h
theorem toNat_inj {a b : Int} (ha : 0 ≤ a) (hb : 0 ≤ b) : a.toNat = b.toNat ↔ a = b := by omega
theorem getD_setq {α : Type} {xs : List α} {i k : Nat} {x d : α} (hi : i < xs.length) : (xs.set i x).getD k d = if k = i then x else xs.getD k d := by
  simp only [List.getD, List.getElem?_set]
  by_cases h : i = k
  · subst h; simp [hi]
  · rw [if_neg h, if_neg fun h' => h h'.symm]
theorem filter_upd {pl : Int → Int} {g p : Int} {xs : List Int} (h : (pl g ≠ 6 ∧ p ≠ 6) ∨ g ∉ xs) : xs.filter (fun k => decide (plu pl g p k ≠ 6)) = xs.filter fun k => decide (pl k ≠ 6) := by
  apply List.filter_congr
  intro k hk
  by_cases e : k = g
  · subst e
    rw [plu_same]
    rcases h with ⟨h1, h2⟩ | h
    · rw [decide_eq_true h1, decide_eq_true h2]
    · exact absurd hk h
  · rw [plu_ne e]

section
variable {w : Int} {B : List BthG} {G : List Grp} {d e : Int} {N : Ngt} {S : Pl} {pl : Int → Int} {up : List Int} {fx : Int}
theorem Rl.np (h : Rl w B G d e N S pl up fx) : N.parties.length = G.length := by rw [← h.ng, List.length_map]
theorem Rl.nr (h : Rl w B G d e N S pl up fx) : N.rides.length = B.length := by rw [← h.nb, List.length_map]
theorem Rl.stat (h : Rl w B G d e N S pl up fx) : N.stat B.length G := ⟨h.nr, h.ng⟩
theorem Rl.pg (h : Rl w B G d e N S pl up fx) {g : Int} (g0 : 0 ≤ g) (g1 : g < G.length) : (N.pa g).g = G.getD g.toNat Grp.d := by
  have hg : g.toNat < N.parties.length := by rw [h.np]; omega
  have e2 : (N.parties.map Pty.g).getD g.toNat Grp.d = (N.pa g).g := by simp [Ngt.pa, List.getD, hg]
  rw [← e2, h.ng]
theorem Rl.pw (h : Rl w B G d e N S pl up fx) {g : Int} (g0 : 0 ≤ g) (g1 : g < G.length) : (N.pa g).g.wants = wn G g := by rw [h.pg g0 g1]; rfl
theorem Rl.sgw (h : Rl w B G d e N S pl up fx) (g : Int) : (S.gr g).wants = wn G g := by unfold Pl.gr; rw [h.sg]; rfl
theorem Rl.bb (h : Rl w B G d e N S pl up fx) {r : Int} (r0 : 0 ≤ r) (r1 : r < B.length) : (N.bo r).b = B.getD r.toNat BthG.d := by
  have hr : r.toNat < N.rides.length := by rw [h.nr]; omega
  have e2 : (N.rides.map Bth.b).getD r.toNat BthG.d = (N.bo r).b := by simp [Ngt.bo, List.getD, hr]
  rw [← e2, h.nb]
end
theorem nodup_range_len : ∀ (m : Nat) (xs : List Int), xs.Nodup → (∀ x ∈ xs, 0 ≤ x ∧ x < m) → xs.length ≤ m
  | 0, [], _, _ => Nat.le_refl _
  | 0, x :: xs, _, h => by have := h x (List.mem_cons_self ..); omega
  | m + 1, xs, hn, h => by
    have h1 : (xs.filter fun x => decide (x ≠ (m : Int))).length ≤ m := by
      refine nodup_range_len m _ (hn.sublist List.filter_sublist) fun x hx => ?_
      obtain ⟨h2, h3⟩ := List.mem_filter.1 hx
      have := h x h2
      have h3 := of_decide_eq_true h3
      omega
    have h2 : xs.length ≤ (xs.filter fun x => decide (x ≠ (m : Int))).length + 1 := by
      clear h h1
      induction xs with
      | nil => simp
      | cons x xs ih =>
        obtain ⟨p1, p2⟩ := List.nodup_cons.1 hn
        by_cases hx : x = m
        · have e : xs.filter (fun x => decide (x ≠ (m : Int))) = xs := by
            rw [List.filter_eq_self]
            intro y hy
            exact decide_eq_true fun e => p1 (by rw [hx, ← e]; exact hy)
          rw [List.filter_cons, if_neg (by simp [hx]), e]
          simp
        · have := ih p2
          rw [List.filter_cons, if_pos (by simp [hx])]
          simp only [List.length_cons]
          omega
    omega
section
variable {w : Int} {B : List BthG} {G : List Grp} {d e : Int} {N : Ngt} {S : Pl} {pl : Int → Int} {up : List Int} {fx : Int}
theorem Rl.qlen (h : Rl w B G d e N S pl up fx) (r : Int) : (N.bo r).queue.length ≤ G.length := by
  by_cases hr : r.toNat < N.rides.length
  · have hr' : r.toNat < B.length := by rw [← h.nr]; exact hr
    have e : N.bo r = N.bo (r.toNat : Int) := rfl
    rw [e, ← List.length_map (f := Prod.fst)]
    refine nodup_range_len _ _ (h.qn r.toNat (by omega) (by omega)) fun x hx => ?_
    obtain ⟨y, hy, rfl⟩ := List.mem_map.1 hx
    have := h.qe r.toNat (by omega) (by omega) y hy
    omega
  · have : N.bo r = Bth.d := by unfold Ngt.bo; simp [List.getD, hr]
    rw [this]
    exact Nat.zero_le _
theorem Rl.olen (h : Rl w B G d e N S pl up fx) (r : Int) : (N.bo r).on.length ≤ G.length := by
  by_cases hr : r.toNat < N.rides.length
  · have hr' : r.toNat < B.length := by rw [← h.nr]; exact hr
    have e : N.bo r = N.bo (r.toNat : Int) := rfl
    rw [e]
    refine nodup_range_len _ _ (h.on r.toNat (by omega) (by omega)) fun x hx => ?_
    have := h.oe r.toNat (by omega) (by omega) x hx
    omega
  · have : N.bo r = Bth.d := by unfold Ngt.bo; simp [List.getD, hr]
    rw [this]
    exact Nat.zero_le _
theorem Rl.arr_ok (h : Rl w B G d e N S pl up fx) (hv : Val w B G) {g : Int} (g0 : 0 ≤ g) (g1 : g < G.length) (hw : (N.pa g).wish < (wn G g).length) : N.Arr g := by
  have hr := h.gr g g0 g1
  have := hv.want hr.w0 hw
  have hn := hv.n
  exact ⟨g0, by rw [h.np]; omega, hr.w0, by rw [h.pw g0 g1]; exact hw, by rw [h.pw g0 g1]; exact this.1, by rw [h.pw g0 g1, h.nr]; omega, fun i => by have := h.qlen i; omega⟩
theorem Rl.nxt_ok (h : Rl w B G d e N S pl up fx) (hv : Val w B G) (ht : N.tick ≤ 5000) {g : Int} (g0 : 0 ≤ g) (g1 : g < G.length) : N.Nxt g := by
  have hr := h.gr g g0 g1
  have hn := hv.n
  refine ⟨g0, by rw [h.np]; omega, hr.w0, by rw [h.pw g0 g1]; exact hr.w1, fun hw => ?_, fun i => by have := h.qlen i; omega, ⟨h.t0, ht⟩, by rw [h.nw]; exact hv.w⟩
  rw [h.pw g0 g1] at hw ⊢
  have := hv.want hr.w0 hw
  exact ⟨this.1, by rw [h.nr]; omega⟩
theorem Rl.dne_ok (h : Rl w B G d e N S pl up fx) (hv : Val w B G) (hl : N.visits.length ≤ 4000000000) {g : Int} (g0 : 0 ≤ g) (g1 : g < G.length) (hw : (N.pa g).wish < (wn G g).length) : N.Dne g := by
  have hr := h.gr g g0 g1
  refine ⟨g0, by rw [h.np]; omega, hr.w0, by rw [h.pw g0 g1]; exact hw, ?_, hl⟩
  rw [h.pg g0 g1]
  have hg : g.toNat < G.length := by omega
  have e2 : G.getD g.toNat Grp.d = G[g.toNat] := by simp [List.getD, hg]
  rw [e2]
  have := (hv.g _ (List.getElem_mem hg)).2.2.2.1
  omega
end
end Go.Proofs.Ytgcefaikdplbkaa
